/-
  No cell of these rows narrows 'for every input' (looked for: loops, veiled, ifaces, maps, wideKeys, modest, calm, conditions, laid).
  DERIVED. THE GIVEN ROWS OF THIS SEAT. 3 by the template 'for every input the law returns true; each argument reads behind the call as it read before'; 0 by the template 'total and deterministic' (their statements: YtdhmhdhfgojofaaTotals.lean).
  GIVEN WITH THE SEED: the statements are not yours to turn. If you find one false, say at which input.
  Laid BY PROGRAM, IN A SANDBOX (cutbox-rows.mjs): the forced cells as the released guide's own fill.sh prints them over the translation ea9331b886d0cf83… (all of the seat's roots in one cut). By AI agents, Wed Nov 11 2026. No macro, syntax, notation, axiom, sorry.
-/
import Derived.Test.YtdhmhdhfgojofaaChecked
import GoSem.Claim
import GoSem.ClaimJoined
import GoSem.ClaimMapViews
import Derived.JoinedTies
import Derived.KernelRfl
namespace Go.Proofs.Ytdhmhdhfgojofaa
/- THE CELL 'sum', in the pinned program and in every row, IS THE sha256 OF THE DUMP (.gsa) THAT YtdhmhdhfgojofaaProg.lean LOADS. Nothing in Lean hashes anything: it is a label: what it is worth is what the hold of that sum in a sandbox is worth. -/
noncomputable def Try.pinned : Pinned := { name := "ytdhmhdhfgojofaa", sum := "ea9331b886d0cf83cf40d4f0d9283131aa8246b0b82728ae9b8e2198056f15d0", checked := Try.checked }
namespace Rows
def none {H : Type} : Left H := { results := [], args := [] }

/-- 'octroilaw23.MarginOf': WHATEVER THE INPUT: true; the input reads as it did. -/
def marginOfSpec : ChangeSpec := { name := "marginOf", fn := fun _ => fun
  | [d1, d2, d3] => { results := [.lit (.bool true)], args := [d1, d2, d3] }
  | _ => none }
def marginOfRow : OpenClaim := { program := "ytdhmhdhfgojofaa", sum := "ea9331b886d0cf83cf40d4f0d9283131aa8246b0b82728ae9b8e2198056f15d0", func := "octroi/octroilaw23.MarginOf", spec := "marginOf", inPlace := ["math/bits.Add64"], unfollowed := true, recurses := true, named := ["math/bits.divideError", "math/bits.overflowError"], apart := false }
def MarginOfSaid : Prop := marginOfRow.holds Try.pinned (OpenSpec.ofChange marginOfSpec)

/-- ITS FALSE NEIGHBOUR: 'it returns false'. Refute it at one input. -/
def marginOfWrong : ChangeSpec := { name := "marginOf", fn := fun _ => fun
  | [d1, d2, d3] => { results := [.lit (.bool false)], args := [d1, d2, d3] }
  | _ => none }
def MarginOfWrongFalsely : Prop := marginOfRow.holds Try.pinned (OpenSpec.ofChange marginOfWrong)

/-- 'octroilaw23.MarginPools': WHATEVER THE INPUT: true; the input reads as it did. -/
def marginPoolsSpec : ChangeSpec := { name := "marginPools", fn := fun _ => fun
  | [d1, d2, d3] => { results := [.lit (.bool true)], args := [d1, d2, d3] }
  | _ => none }
def marginPoolsRow : OpenClaim := { program := "ytdhmhdhfgojofaa", sum := "ea9331b886d0cf83cf40d4f0d9283131aa8246b0b82728ae9b8e2198056f15d0", func := "octroi/octroilaw23.MarginPools", spec := "marginPools", inPlace := ["math/bits.Add64"], unfollowed := true, recurses := true, named := ["math/bits.divideError", "math/bits.overflowError"], apart := false }
def MarginPoolsSaid : Prop := marginPoolsRow.holds Try.pinned (OpenSpec.ofChange marginPoolsSpec)

/-- ITS FALSE NEIGHBOUR: 'it returns false'. Refute it at one input. -/
def marginPoolsWrong : ChangeSpec := { name := "marginPools", fn := fun _ => fun
  | [d1, d2, d3] => { results := [.lit (.bool false)], args := [d1, d2, d3] }
  | _ => none }
def MarginPoolsWrongFalsely : Prop := marginPoolsRow.holds Try.pinned (OpenSpec.ofChange marginPoolsWrong)

/-- 'octroilaw23.MarginAlone': WHATEVER THE INPUT: true; the input reads as it did. -/
def marginAloneSpec : ChangeSpec := { name := "marginAlone", fn := fun _ => fun
  | [d1, d2] => { results := [.lit (.bool true)], args := [d1, d2] }
  | _ => none }
def marginAloneRow : OpenClaim := { program := "ytdhmhdhfgojofaa", sum := "ea9331b886d0cf83cf40d4f0d9283131aa8246b0b82728ae9b8e2198056f15d0", func := "octroi/octroilaw23.MarginAlone", spec := "marginAlone", inPlace := ["math/bits.Add64"], unfollowed := true, recurses := true, named := ["math/bits.divideError", "math/bits.overflowError"], apart := false }
def MarginAloneSaid : Prop := marginAloneRow.holds Try.pinned (OpenSpec.ofChange marginAloneSpec)

/-- ITS FALSE NEIGHBOUR: 'it returns false'. Refute it at one input. -/
def marginAloneWrong : ChangeSpec := { name := "marginAlone", fn := fun _ => fun
  | [d1, d2] => { results := [.lit (.bool false)], args := [d1, d2] }
  | _ => none }
def MarginAloneWrongFalsely : Prop := marginAloneRow.holds Try.pinned (OpenSpec.ofChange marginAloneWrong)

/- THE SECOND FORM. 'bulk': how many values and letters a reading holds, each counted each time it is reached (what is shared counts as often as it is met; a slice's spare places count too). A statement '..UptoSaid' is the law's where the arguments, and the package variables that the reading takes, are together of bulk at most 1048576: NARROWER than '..Said'. Prove '..Said' where nothing that the law and all that it calls make is longer than what came in: it says more and counts as full. Else prove '..UptoSaid'. A law counts once. -/
mutual
def uptoBulk {H : Type} : DataW H → Nat
  | .lit (.string bytes) => bytes.length + 1
  | .lit _ => 1
  | .nil => 1
  | .ptr d => uptoBulk d + 1
  | .slice elems spare => uptoBulkAll elems + uptoBulkAll spare + 1
  | .agg parts => uptoBulkAll parts + 1
  | .iface _ d => uptoBulk d + 1
  | .map entries => uptoBulkEntries entries + 1
  | .held _ => 1
def uptoBulkAll {H : Type} : List (DataW H) → Nat
  | [] => 0
  | d :: r => uptoBulk d + uptoBulkAll r
def uptoBulkEntries {H : Type} : List (Lit × DataW H) → Nat
  | [] => 0
  | x :: r => uptoBulkEntry x + uptoBulkEntries r
def uptoBulkEntry {H : Type} : Lit × DataW H → Nat
  | (.string bytes, d) => bytes.length + uptoBulk d + 1
  | (_, d) => uptoBulk d + 1
 end
def uptoSmall : (H : Type) → List (DataW H) → Bool := fun _ ds => decide (uptoBulkAll ds ≤ 1048576)
def OpenSpec.upto (s : _root_.Go.ChangeSpec) : _root_.Go.OpenSpec := { _root_.Go.OpenSpec.ofChange s with cond := some uptoSmall }

/-- 'octroilaw23.MarginOf', WHERE WHAT IT READS IS OF BULK AT MOST 1048576: true; the input reads as it did. -/
def marginOfUptoRow : OpenClaim := { program := "ytdhmhdhfgojofaa", sum := "ea9331b886d0cf83cf40d4f0d9283131aa8246b0b82728ae9b8e2198056f15d0", func := "octroi/octroilaw23.MarginOf", spec := "marginOf", inPlace := ["math/bits.Add64"], unfollowed := true, recurses := true, named := ["math/bits.divideError", "math/bits.overflowError"], apart := false, narrowed := true }
def MarginOfUptoSaid : Prop := marginOfUptoRow.holds Try.pinned (OpenSpec.upto marginOfSpec)

/-- 'octroilaw23.MarginPools', WHERE WHAT IT READS IS OF BULK AT MOST 1048576: true; the input reads as it did. -/
def marginPoolsUptoRow : OpenClaim := { program := "ytdhmhdhfgojofaa", sum := "ea9331b886d0cf83cf40d4f0d9283131aa8246b0b82728ae9b8e2198056f15d0", func := "octroi/octroilaw23.MarginPools", spec := "marginPools", inPlace := ["math/bits.Add64"], unfollowed := true, recurses := true, named := ["math/bits.divideError", "math/bits.overflowError"], apart := false, narrowed := true }
def MarginPoolsUptoSaid : Prop := marginPoolsUptoRow.holds Try.pinned (OpenSpec.upto marginPoolsSpec)

/-- 'octroilaw23.MarginAlone', WHERE WHAT IT READS IS OF BULK AT MOST 1048576: true; the input reads as it did. -/
def marginAloneUptoRow : OpenClaim := { program := "ytdhmhdhfgojofaa", sum := "ea9331b886d0cf83cf40d4f0d9283131aa8246b0b82728ae9b8e2198056f15d0", func := "octroi/octroilaw23.MarginAlone", spec := "marginAlone", inPlace := ["math/bits.Add64"], unfollowed := true, recurses := true, named := ["math/bits.divideError", "math/bits.overflowError"], apart := false, narrowed := true }
def MarginAloneUptoSaid : Prop := marginAloneUptoRow.holds Try.pinned (OpenSpec.upto marginAloneSpec)

end Rows
end Go.Proofs.Ytdhmhdhfgojofaa
