/-
  No cell of these rows narrows 'for every input' (looked for: loops, veiled, ifaces, maps, wideKeys, modest, calm, conditions, laid).
  DERIVED. THE GIVEN ROWS OF THIS SEAT. 4 by the template 'for every input the law returns true; each argument reads behind the call as it read before'; 0 by the template 'total and deterministic' (their statements: YtmgfaoomdpgbhaaTotals.lean).
  GIVEN WITH THE SEED: the statements are not yours to turn. If you find one false, say at which input.
  Laid BY PROGRAM, IN A SANDBOX (cutbox-rows.mjs): the forced cells as the released guide's own fill.sh prints them over the translation 173cceb299120e92… (all of the seat's roots in one cut). By AI agents, Wed Nov 11 2026. No macro, syntax, notation, axiom, sorry.
-/
import Derived.Test.YtmgfaoomdpgbhaaChecked
import GoSem.Claim
import GoSem.ClaimJoined
import GoSem.ClaimMapViews
import Derived.JoinedTies
import Derived.KernelRfl
namespace Go.Proofs.Ytmgfaoomdpgbhaa
/- THE CELL 'sum', in the pinned program and in every row, IS THE sha256 OF THE DUMP (.gsa) THAT YtmgfaoomdpgbhaaProg.lean LOADS. Nothing in Lean hashes anything: it is a label: what it is worth is what the hold of that sum in a sandbox is worth. -/
noncomputable def Try.pinned : Pinned := { name := "ytmgfaoomdpgbhaa", sum := "173cceb299120e9231d7d54b1ec8817d8d8f3b45fe6d84a7299ef383c7f22a28", checked := Try.checked }
namespace Rows
def none {H : Type} : Left H := { results := [], args := [] }

/-- 'octroilaw27.PeriodOnce': WHATEVER THE INPUT: true; the input reads as it did. -/
def periodOnceSpec : ChangeSpec := { name := "periodOnce", fn := fun _ => fun
  | [d1, d2, d3, d4] => { results := [.lit (.bool true)], args := [d1, d2, d3, d4] }
  | _ => none }
def periodOnceRow : OpenClaim := { program := "ytmgfaoomdpgbhaa", sum := "173cceb299120e9231d7d54b1ec8817d8d8f3b45fe6d84a7299ef383c7f22a28", func := "octroi/octroilaw27.PeriodOnce", spec := "periodOnce", unfollowed := true, recurses := true, apart := false }
def PeriodOnceSaid : Prop := periodOnceRow.holds Try.pinned (OpenSpec.ofChange periodOnceSpec)

/-- ITS FALSE NEIGHBOUR: 'it returns false'. Refute it at one input. -/
def periodOnceWrong : ChangeSpec := { name := "periodOnce", fn := fun _ => fun
  | [d1, d2, d3, d4] => { results := [.lit (.bool false)], args := [d1, d2, d3, d4] }
  | _ => none }
def PeriodOnceWrongFalsely : Prop := periodOnceRow.holds Try.pinned (OpenSpec.ofChange periodOnceWrong)

/-- 'octroilaw27.PeriodRoutes': WHATEVER THE INPUT: true; the input reads as it did. -/
def periodRoutesSpec : ChangeSpec := { name := "periodRoutes", fn := fun _ => fun
  | [d1, d2, d3, d4] => { results := [.lit (.bool true)], args := [d1, d2, d3, d4] }
  | _ => none }
def periodRoutesRow : OpenClaim := { program := "ytmgfaoomdpgbhaa", sum := "173cceb299120e9231d7d54b1ec8817d8d8f3b45fe6d84a7299ef383c7f22a28", func := "octroi/octroilaw27.PeriodRoutes", spec := "periodRoutes", unfollowed := true, recurses := true, apart := false }
def PeriodRoutesSaid : Prop := periodRoutesRow.holds Try.pinned (OpenSpec.ofChange periodRoutesSpec)

/-- ITS FALSE NEIGHBOUR: 'it returns false'. Refute it at one input. -/
def periodRoutesWrong : ChangeSpec := { name := "periodRoutes", fn := fun _ => fun
  | [d1, d2, d3, d4] => { results := [.lit (.bool false)], args := [d1, d2, d3, d4] }
  | _ => none }
def PeriodRoutesWrongFalsely : Prop := periodRoutesRow.holds Try.pinned (OpenSpec.ofChange periodRoutesWrong)

/-- 'octroilaw27.PeriodPlays': WHATEVER THE INPUT: true; the input reads as it did. -/
def periodPlaysSpec : ChangeSpec := { name := "periodPlays", fn := fun _ => fun
  | [d1, d2, d3, d4, d5] => { results := [.lit (.bool true)], args := [d1, d2, d3, d4, d5] }
  | _ => none }
def periodPlaysRow : OpenClaim := { program := "ytmgfaoomdpgbhaa", sum := "173cceb299120e9231d7d54b1ec8817d8d8f3b45fe6d84a7299ef383c7f22a28", func := "octroi/octroilaw27.PeriodPlays", spec := "periodPlays", unfollowed := true, recurses := true, apart := false }
def PeriodPlaysSaid : Prop := periodPlaysRow.holds Try.pinned (OpenSpec.ofChange periodPlaysSpec)

/-- ITS FALSE NEIGHBOUR: 'it returns false'. Refute it at one input. -/
def periodPlaysWrong : ChangeSpec := { name := "periodPlays", fn := fun _ => fun
  | [d1, d2, d3, d4, d5] => { results := [.lit (.bool false)], args := [d1, d2, d3, d4, d5] }
  | _ => none }
def PeriodPlaysWrongFalsely : Prop := periodPlaysRow.holds Try.pinned (OpenSpec.ofChange periodPlaysWrong)

/-- 'octroilaw27.PeriodNobody': WHATEVER THE INPUT: true; the input reads as it did. -/
def periodNobodySpec : ChangeSpec := { name := "periodNobody", fn := fun _ => fun
  | [d1, d2] => { results := [.lit (.bool true)], args := [d1, d2] }
  | _ => none }
def periodNobodyRow : OpenClaim := { program := "ytmgfaoomdpgbhaa", sum := "173cceb299120e9231d7d54b1ec8817d8d8f3b45fe6d84a7299ef383c7f22a28", func := "octroi/octroilaw27.PeriodNobody", spec := "periodNobody", unfollowed := true, recurses := true, apart := false }
def PeriodNobodySaid : Prop := periodNobodyRow.holds Try.pinned (OpenSpec.ofChange periodNobodySpec)

/-- ITS FALSE NEIGHBOUR: 'it returns false'. Refute it at one input. -/
def periodNobodyWrong : ChangeSpec := { name := "periodNobody", fn := fun _ => fun
  | [d1, d2] => { results := [.lit (.bool false)], args := [d1, d2] }
  | _ => none }
def PeriodNobodyWrongFalsely : Prop := periodNobodyRow.holds Try.pinned (OpenSpec.ofChange periodNobodyWrong)

/- THE SECOND FORM. 'bulk': how many values and letters a reading holds, each counted each time it is reached (what is shared counts as often as it is met; a slice's spare places count too). A statement '..UptoSaid' is the law's where the arguments, and the package variables that the reading takes, are together of bulk at most 1048576: NARROWER than '..Said'. Prove '..Said' where nothing that the law and all that it calls make is longer than what came in: it says more and counts as full. Else prove '..UptoSaid'. A law counts once. -/
mutual
def uptoBulk {H : Type} : DataW H → Nat
  | .lit (.string bytes) => bytes.length + 1
  | .lit _ => 1
  | .nil => 1
  | .ptr d => uptoBulk d + 1
  | .slice elems spare => uptoBulkAll elems + uptoBulkAll spare + 1
  | .agg parts => uptoBulkAll parts + 1
  | .iface _ d => uptoBulk d + 1
  | .map entries => uptoBulkEntries entries + 1
  | .held _ => 1
def uptoBulkAll {H : Type} : List (DataW H) → Nat
  | [] => 0
  | d :: r => uptoBulk d + uptoBulkAll r
def uptoBulkEntries {H : Type} : List (Lit × DataW H) → Nat
  | [] => 0
  | x :: r => uptoBulkEntry x + uptoBulkEntries r
def uptoBulkEntry {H : Type} : Lit × DataW H → Nat
  | (.string bytes, d) => bytes.length + uptoBulk d + 1
  | (_, d) => uptoBulk d + 1
 end
def uptoSmall : (H : Type) → List (DataW H) → Bool := fun _ ds => decide (uptoBulkAll ds ≤ 1048576)
def OpenSpec.upto (s : _root_.Go.ChangeSpec) : _root_.Go.OpenSpec := { _root_.Go.OpenSpec.ofChange s with cond := some uptoSmall }

/-- 'octroilaw27.PeriodOnce', WHERE WHAT IT READS IS OF BULK AT MOST 1048576: true; the input reads as it did. -/
def periodOnceUptoRow : OpenClaim := { program := "ytmgfaoomdpgbhaa", sum := "173cceb299120e9231d7d54b1ec8817d8d8f3b45fe6d84a7299ef383c7f22a28", func := "octroi/octroilaw27.PeriodOnce", spec := "periodOnce", unfollowed := true, recurses := true, apart := false, narrowed := true }
def PeriodOnceUptoSaid : Prop := periodOnceUptoRow.holds Try.pinned (OpenSpec.upto periodOnceSpec)

/-- 'octroilaw27.PeriodRoutes', WHERE WHAT IT READS IS OF BULK AT MOST 1048576: true; the input reads as it did. -/
def periodRoutesUptoRow : OpenClaim := { program := "ytmgfaoomdpgbhaa", sum := "173cceb299120e9231d7d54b1ec8817d8d8f3b45fe6d84a7299ef383c7f22a28", func := "octroi/octroilaw27.PeriodRoutes", spec := "periodRoutes", unfollowed := true, recurses := true, apart := false, narrowed := true }
def PeriodRoutesUptoSaid : Prop := periodRoutesUptoRow.holds Try.pinned (OpenSpec.upto periodRoutesSpec)

/-- 'octroilaw27.PeriodPlays', WHERE WHAT IT READS IS OF BULK AT MOST 1048576: true; the input reads as it did. -/
def periodPlaysUptoRow : OpenClaim := { program := "ytmgfaoomdpgbhaa", sum := "173cceb299120e9231d7d54b1ec8817d8d8f3b45fe6d84a7299ef383c7f22a28", func := "octroi/octroilaw27.PeriodPlays", spec := "periodPlays", unfollowed := true, recurses := true, apart := false, narrowed := true }
def PeriodPlaysUptoSaid : Prop := periodPlaysUptoRow.holds Try.pinned (OpenSpec.upto periodPlaysSpec)

/-- 'octroilaw27.PeriodNobody', WHERE WHAT IT READS IS OF BULK AT MOST 1048576: true; the input reads as it did. -/
def periodNobodyUptoRow : OpenClaim := { program := "ytmgfaoomdpgbhaa", sum := "173cceb299120e9231d7d54b1ec8817d8d8f3b45fe6d84a7299ef383c7f22a28", func := "octroi/octroilaw27.PeriodNobody", spec := "periodNobody", unfollowed := true, recurses := true, apart := false, narrowed := true }
def PeriodNobodyUptoSaid : Prop := periodNobodyUptoRow.holds Try.pinned (OpenSpec.upto periodNobodySpec)

end Rows
end Go.Proofs.Ytmgfaoomdpgbhaa
