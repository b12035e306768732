/-
  No cell of these rows narrows 'for every input' (looked for: loops, veiled, ifaces, maps, wideKeys, modest, calm, conditions, laid).
  DERIVED. THE GIVEN ROWS OF THIS SEAT. 3 by the template 'for every input the law returns true; each argument reads behind the call as it read before'; 0 by the template 'total and deterministic' (their statements: YtiajknfbbchfmaaTotals.lean).
  GIVEN WITH THE SEED: the statements are not yours to turn. If you find one false, say at which input.
  Laid BY PROGRAM, IN A SANDBOX (cutbox-rows.mjs): the forced cells as the released guide's own fill.sh prints them over the translation 32cf4744cafeaa86… (all of the seat's roots in one cut). By AI agents, Wed Nov 11 2026. No macro, syntax, notation, axiom, sorry.
-/
import Derived.Test.YtiajknfbbchfmaaChecked
import GoSem.Claim
import GoSem.ClaimJoined
import GoSem.ClaimMapViews
import Derived.JoinedTies
import Derived.KernelRfl
namespace Go.Proofs.Ytiajknfbbchfmaa
/- THE CELL 'sum', in the pinned program and in every row, IS THE sha256 OF THE DUMP (.gsa) THAT YtiajknfbbchfmaaProg.lean LOADS. Nothing in Lean hashes anything: it is a label: what it is worth is what the hold of that sum in a sandbox is worth. -/
noncomputable def Try.pinned : Pinned := { name := "ytiajknfbbchfmaa", sum := "32cf4744cafeaa86711be5f282b1be6e149f7b728427dffa39365dd0d6386fdb", checked := Try.checked }
namespace Rows
def none {H : Type} : Left H := { results := [], args := [] }

/-- 'octroilaw28.ProrataPercent': WHATEVER THE INPUT: true; the input reads as it did. -/
def prorataPercentSpec : ChangeSpec := { name := "prorataPercent", fn := fun _ => fun
  | [d1, d2] => { results := [.lit (.bool true)], args := [d1, d2] }
  | _ => none }
def prorataPercentRow : OpenClaim := { program := "ytiajknfbbchfmaa", sum := "32cf4744cafeaa86711be5f282b1be6e149f7b728427dffa39365dd0d6386fdb", func := "octroi/octroilaw28.ProrataPercent", spec := "prorataPercent", inPlace := ["math/bits.Add64"], unfollowed := true, recurses := true, named := ["math/bits.divideError", "math/bits.overflowError"], apart := false }
def ProrataPercentSaid : Prop := prorataPercentRow.holds Try.pinned (OpenSpec.ofChange prorataPercentSpec)

/-- ITS FALSE NEIGHBOUR: 'it returns false'. Refute it at one input. -/
def prorataPercentWrong : ChangeSpec := { name := "prorataPercent", fn := fun _ => fun
  | [d1, d2] => { results := [.lit (.bool false)], args := [d1, d2] }
  | _ => none }
def ProrataPercentWrongFalsely : Prop := prorataPercentRow.holds Try.pinned (OpenSpec.ofChange prorataPercentWrong)

/-- 'octroilaw28.ProrataTrue': WHATEVER THE INPUT: true; the input reads as it did. -/
def prorataTrueSpec : ChangeSpec := { name := "prorataTrue", fn := fun _ => fun
  | [d1, d2, d3, d4] => { results := [.lit (.bool true)], args := [d1, d2, d3, d4] }
  | _ => none }
def prorataTrueRow : OpenClaim := { program := "ytiajknfbbchfmaa", sum := "32cf4744cafeaa86711be5f282b1be6e149f7b728427dffa39365dd0d6386fdb", func := "octroi/octroilaw28.ProrataTrue", spec := "prorataTrue", inPlace := ["math/bits.Add64"], unfollowed := true, recurses := true, named := ["math/bits.divideError", "math/bits.overflowError"], apart := false }
def ProrataTrueSaid : Prop := prorataTrueRow.holds Try.pinned (OpenSpec.ofChange prorataTrueSpec)

/-- ITS FALSE NEIGHBOUR: 'it returns false'. Refute it at one input. -/
def prorataTrueWrong : ChangeSpec := { name := "prorataTrue", fn := fun _ => fun
  | [d1, d2, d3, d4] => { results := [.lit (.bool false)], args := [d1, d2, d3, d4] }
  | _ => none }
def ProrataTrueWrongFalsely : Prop := prorataTrueRow.holds Try.pinned (OpenSpec.ofChange prorataTrueWrong)

/-- 'octroilaw28.ProrataRows': WHATEVER THE INPUT: true; the input reads as it did. -/
def prorataRowsSpec : ChangeSpec := { name := "prorataRows", fn := fun _ => fun
  | [d1, d2, d3, d4] => { results := [.lit (.bool true)], args := [d1, d2, d3, d4] }
  | _ => none }
def prorataRowsRow : OpenClaim := { program := "ytiajknfbbchfmaa", sum := "32cf4744cafeaa86711be5f282b1be6e149f7b728427dffa39365dd0d6386fdb", func := "octroi/octroilaw28.ProrataRows", spec := "prorataRows", inPlace := ["math/bits.Add64"], unfollowed := true, recurses := true, named := ["math/bits.divideError", "math/bits.overflowError"], apart := false }
def ProrataRowsSaid : Prop := prorataRowsRow.holds Try.pinned (OpenSpec.ofChange prorataRowsSpec)

/-- ITS FALSE NEIGHBOUR: 'it returns false'. Refute it at one input. -/
def prorataRowsWrong : ChangeSpec := { name := "prorataRows", fn := fun _ => fun
  | [d1, d2, d3, d4] => { results := [.lit (.bool false)], args := [d1, d2, d3, d4] }
  | _ => none }
def ProrataRowsWrongFalsely : Prop := prorataRowsRow.holds Try.pinned (OpenSpec.ofChange prorataRowsWrong)

/- THE SECOND FORM. 'bulk': how many values and letters a reading holds, each counted each time it is reached (what is shared counts as often as it is met; a slice's spare places count too). A statement '..UptoSaid' is the law's where the arguments, and the package variables that the reading takes, are together of bulk at most 1048576: NARROWER than '..Said'. Prove '..Said' where nothing that the law and all that it calls make is longer than what came in: it says more and counts as full. Else prove '..UptoSaid'. A law counts once. -/
mutual
def uptoBulk {H : Type} : DataW H → Nat
  | .lit (.string bytes) => bytes.length + 1
  | .lit _ => 1
  | .nil => 1
  | .ptr d => uptoBulk d + 1
  | .slice elems spare => uptoBulkAll elems + uptoBulkAll spare + 1
  | .agg parts => uptoBulkAll parts + 1
  | .iface _ d => uptoBulk d + 1
  | .map entries => uptoBulkEntries entries + 1
  | .held _ => 1
def uptoBulkAll {H : Type} : List (DataW H) → Nat
  | [] => 0
  | d :: r => uptoBulk d + uptoBulkAll r
def uptoBulkEntries {H : Type} : List (Lit × DataW H) → Nat
  | [] => 0
  | x :: r => uptoBulkEntry x + uptoBulkEntries r
def uptoBulkEntry {H : Type} : Lit × DataW H → Nat
  | (.string bytes, d) => bytes.length + uptoBulk d + 1
  | (_, d) => uptoBulk d + 1
 end
def uptoSmall : (H : Type) → List (DataW H) → Bool := fun _ ds => decide (uptoBulkAll ds ≤ 1048576)
def OpenSpec.upto (s : _root_.Go.ChangeSpec) : _root_.Go.OpenSpec := { _root_.Go.OpenSpec.ofChange s with cond := some uptoSmall }

/-- 'octroilaw28.ProrataPercent', WHERE WHAT IT READS IS OF BULK AT MOST 1048576: true; the input reads as it did. -/
def prorataPercentUptoRow : OpenClaim := { program := "ytiajknfbbchfmaa", sum := "32cf4744cafeaa86711be5f282b1be6e149f7b728427dffa39365dd0d6386fdb", func := "octroi/octroilaw28.ProrataPercent", spec := "prorataPercent", inPlace := ["math/bits.Add64"], unfollowed := true, recurses := true, named := ["math/bits.divideError", "math/bits.overflowError"], apart := false, narrowed := true }
def ProrataPercentUptoSaid : Prop := prorataPercentUptoRow.holds Try.pinned (OpenSpec.upto prorataPercentSpec)

/-- 'octroilaw28.ProrataTrue', WHERE WHAT IT READS IS OF BULK AT MOST 1048576: true; the input reads as it did. -/
def prorataTrueUptoRow : OpenClaim := { program := "ytiajknfbbchfmaa", sum := "32cf4744cafeaa86711be5f282b1be6e149f7b728427dffa39365dd0d6386fdb", func := "octroi/octroilaw28.ProrataTrue", spec := "prorataTrue", inPlace := ["math/bits.Add64"], unfollowed := true, recurses := true, named := ["math/bits.divideError", "math/bits.overflowError"], apart := false, narrowed := true }
def ProrataTrueUptoSaid : Prop := prorataTrueUptoRow.holds Try.pinned (OpenSpec.upto prorataTrueSpec)

/-- 'octroilaw28.ProrataRows', WHERE WHAT IT READS IS OF BULK AT MOST 1048576: true; the input reads as it did. -/
def prorataRowsUptoRow : OpenClaim := { program := "ytiajknfbbchfmaa", sum := "32cf4744cafeaa86711be5f282b1be6e149f7b728427dffa39365dd0d6386fdb", func := "octroi/octroilaw28.ProrataRows", spec := "prorataRows", inPlace := ["math/bits.Add64"], unfollowed := true, recurses := true, named := ["math/bits.divideError", "math/bits.overflowError"], apart := false, narrowed := true }
def ProrataRowsUptoSaid : Prop := prorataRowsUptoRow.holds Try.pinned (OpenSpec.upto prorataRowsSpec)

end Rows
end Go.Proofs.Ytiajknfbbchfmaa
