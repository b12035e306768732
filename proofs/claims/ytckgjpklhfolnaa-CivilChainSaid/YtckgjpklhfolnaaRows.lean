/-
  No cell of these rows narrows 'for every input' (looked for: loops, veiled, ifaces, maps, wideKeys, modest, calm, conditions, laid).
  DERIVED. THE GIVEN ROWS OF THIS SEAT. 5 by the template 'for every input the law returns true; each argument reads behind the call as it read before'; 0 by the template 'total and deterministic' (their statements: YtckgjpklhfolnaaTotals.lean).
  GIVEN WITH THE SEED: the statements are not yours to turn. If you find one false, say at which input.
  Laid BY PROGRAM, IN A SANDBOX (cutbox-rows.mjs): the forced cells as the released guide's own fill.sh prints them over the translation fbdd8e3502961c46… (all of the seat's roots in one cut). By AI agents, Wed Nov 11 2026. No macro, syntax, notation, axiom, sorry.
-/
import Derived.Test.YtckgjpklhfolnaaChecked
import GoSem.Claim
import GoSem.ClaimJoined
import GoSem.ClaimMapViews
import Derived.JoinedTies
import Derived.KernelRfl
namespace Go.Proofs.Ytckgjpklhfolnaa
/- THE CELL 'sum', in the pinned program and in every row, IS THE sha256 OF THE DUMP (.gsa) THAT YtckgjpklhfolnaaProg.lean LOADS. Nothing in Lean hashes anything: it is a label: what it is worth is what the hold of that sum in a sandbox is worth. -/
noncomputable def Try.pinned : Pinned := { name := "ytckgjpklhfolnaa", sum := "fbdd8e3502961c46ecfe4d4bc91b650b70f91f9026566b8ddb38b1ae7405299e", checked := Try.checked }
namespace Rows
def none {H : Type} : Left H := { results := [], args := [] }

/-- 'octroilaw04.CivilDays': WHATEVER THE INPUT: true; the input reads as it did. -/
def civilDaysSpec : ChangeSpec := { name := "civilDays", fn := fun _ => fun
  | [d1, d2, d3] => { results := [.lit (.bool true)], args := [d1, d2, d3] }
  | _ => none }
def civilDaysRow : OpenClaim := { program := "ytckgjpklhfolnaa", sum := "fbdd8e3502961c46ecfe4d4bc91b650b70f91f9026566b8ddb38b1ae7405299e", func := "octroi/octroilaw04.CivilDays", spec := "civilDays", apart := false }
def CivilDaysSaid : Prop := civilDaysRow.holds Try.pinned (OpenSpec.ofChange civilDaysSpec)

/-- ITS FALSE NEIGHBOUR: 'it returns false'. Refute it at one input. -/
def civilDaysWrong : ChangeSpec := { name := "civilDays", fn := fun _ => fun
  | [d1, d2, d3] => { results := [.lit (.bool false)], args := [d1, d2, d3] }
  | _ => none }
def CivilDaysWrongFalsely : Prop := civilDaysRow.holds Try.pinned (OpenSpec.ofChange civilDaysWrong)

/-- 'octroilaw04.CivilDates': WHATEVER THE INPUT: true; the input reads as it did. -/
def civilDatesSpec : ChangeSpec := { name := "civilDates", fn := fun _ => fun
  | [d] => { results := [.lit (.bool true)], args := [d] }
  | _ => none }
def civilDatesRow : OpenClaim := { program := "ytckgjpklhfolnaa", sum := "fbdd8e3502961c46ecfe4d4bc91b650b70f91f9026566b8ddb38b1ae7405299e", func := "octroi/octroilaw04.CivilDates", spec := "civilDates", apart := false }
def CivilDatesSaid : Prop := civilDatesRow.holds Try.pinned (OpenSpec.ofChange civilDatesSpec)

/-- ITS FALSE NEIGHBOUR: 'it returns false'. Refute it at one input. -/
def civilDatesWrong : ChangeSpec := { name := "civilDates", fn := fun _ => fun
  | [d] => { results := [.lit (.bool false)], args := [d] }
  | _ => none }
def CivilDatesWrongFalsely : Prop := civilDatesRow.holds Try.pinned (OpenSpec.ofChange civilDatesWrong)

/-- 'octroilaw04.CivilPeriods': WHATEVER THE INPUT: true; the input reads as it did. -/
def civilPeriodsSpec : ChangeSpec := { name := "civilPeriods", fn := fun _ => fun
  | [d1, d2, d3] => { results := [.lit (.bool true)], args := [d1, d2, d3] }
  | _ => none }
def civilPeriodsRow : OpenClaim := { program := "ytckgjpklhfolnaa", sum := "fbdd8e3502961c46ecfe4d4bc91b650b70f91f9026566b8ddb38b1ae7405299e", func := "octroi/octroilaw04.CivilPeriods", spec := "civilPeriods", apart := false }
def CivilPeriodsSaid : Prop := civilPeriodsRow.holds Try.pinned (OpenSpec.ofChange civilPeriodsSpec)

/-- ITS FALSE NEIGHBOUR: 'it returns false'. Refute it at one input. -/
def civilPeriodsWrong : ChangeSpec := { name := "civilPeriods", fn := fun _ => fun
  | [d1, d2, d3] => { results := [.lit (.bool false)], args := [d1, d2, d3] }
  | _ => none }
def CivilPeriodsWrongFalsely : Prop := civilPeriodsRow.holds Try.pinned (OpenSpec.ofChange civilPeriodsWrong)

/-- 'octroilaw04.CivilChain': WHATEVER THE INPUT: true; the input reads as it did. -/
def civilChainSpec : ChangeSpec := { name := "civilChain", fn := fun _ => fun
  | [d] => { results := [.lit (.bool true)], args := [d] }
  | _ => none }
def civilChainRow : OpenClaim := { program := "ytckgjpklhfolnaa", sum := "fbdd8e3502961c46ecfe4d4bc91b650b70f91f9026566b8ddb38b1ae7405299e", func := "octroi/octroilaw04.CivilChain", spec := "civilChain", unfollowed := true, recurses := true, apart := false }
def CivilChainSaid : Prop := civilChainRow.holds Try.pinned (OpenSpec.ofChange civilChainSpec)

/-- ITS FALSE NEIGHBOUR: 'it returns false'. Refute it at one input. -/
def civilChainWrong : ChangeSpec := { name := "civilChain", fn := fun _ => fun
  | [d] => { results := [.lit (.bool false)], args := [d] }
  | _ => none }
def CivilChainWrongFalsely : Prop := civilChainRow.holds Try.pinned (OpenSpec.ofChange civilChainWrong)

/-- 'octroilaw04.CivilOf': WHATEVER THE INPUT: true; the input reads as it did. -/
def civilOfSpec : ChangeSpec := { name := "civilOf", fn := fun _ => fun
  | [d1, d2, d3, d4] => { results := [.lit (.bool true)], args := [d1, d2, d3, d4] }
  | _ => none }
def civilOfRow : OpenClaim := { program := "ytckgjpklhfolnaa", sum := "fbdd8e3502961c46ecfe4d4bc91b650b70f91f9026566b8ddb38b1ae7405299e", func := "octroi/octroilaw04.CivilOf", spec := "civilOf", unfollowed := true, recurses := true, apart := false }
def CivilOfSaid : Prop := civilOfRow.holds Try.pinned (OpenSpec.ofChange civilOfSpec)

/-- ITS FALSE NEIGHBOUR: 'it returns false'. Refute it at one input. -/
def civilOfWrong : ChangeSpec := { name := "civilOf", fn := fun _ => fun
  | [d1, d2, d3, d4] => { results := [.lit (.bool false)], args := [d1, d2, d3, d4] }
  | _ => none }
def CivilOfWrongFalsely : Prop := civilOfRow.holds Try.pinned (OpenSpec.ofChange civilOfWrong)

/- THE SECOND FORM. 'bulk': how many values and letters a reading holds, each counted each time it is reached (what is shared counts as often as it is met; a slice's spare places count too). A statement '..UptoSaid' is the law's where the arguments, and the package variables that the reading takes, are together of bulk at most 1048576: NARROWER than '..Said'. Prove '..Said' where nothing that the law and all that it calls make is longer than what came in: it says more and counts as full. Else prove '..UptoSaid'. A law counts once. -/
mutual
def uptoBulk {H : Type} : DataW H → Nat
  | .lit (.string bytes) => bytes.length + 1
  | .lit _ => 1
  | .nil => 1
  | .ptr d => uptoBulk d + 1
  | .slice elems spare => uptoBulkAll elems + uptoBulkAll spare + 1
  | .agg parts => uptoBulkAll parts + 1
  | .iface _ d => uptoBulk d + 1
  | .map entries => uptoBulkEntries entries + 1
  | .held _ => 1
def uptoBulkAll {H : Type} : List (DataW H) → Nat
  | [] => 0
  | d :: r => uptoBulk d + uptoBulkAll r
def uptoBulkEntries {H : Type} : List (Lit × DataW H) → Nat
  | [] => 0
  | x :: r => uptoBulkEntry x + uptoBulkEntries r
def uptoBulkEntry {H : Type} : Lit × DataW H → Nat
  | (.string bytes, d) => bytes.length + uptoBulk d + 1
  | (_, d) => uptoBulk d + 1
 end
def uptoSmall : (H : Type) → List (DataW H) → Bool := fun _ ds => decide (uptoBulkAll ds ≤ 1048576)
def OpenSpec.upto (s : _root_.Go.ChangeSpec) : _root_.Go.OpenSpec := { _root_.Go.OpenSpec.ofChange s with cond := some uptoSmall }

/-- 'octroilaw04.CivilDays', WHERE WHAT IT READS IS OF BULK AT MOST 1048576: true; the input reads as it did. -/
def civilDaysUptoRow : OpenClaim := { program := "ytckgjpklhfolnaa", sum := "fbdd8e3502961c46ecfe4d4bc91b650b70f91f9026566b8ddb38b1ae7405299e", func := "octroi/octroilaw04.CivilDays", spec := "civilDays", apart := false, narrowed := true }
def CivilDaysUptoSaid : Prop := civilDaysUptoRow.holds Try.pinned (OpenSpec.upto civilDaysSpec)

/-- 'octroilaw04.CivilDates', WHERE WHAT IT READS IS OF BULK AT MOST 1048576: true; the input reads as it did. -/
def civilDatesUptoRow : OpenClaim := { program := "ytckgjpklhfolnaa", sum := "fbdd8e3502961c46ecfe4d4bc91b650b70f91f9026566b8ddb38b1ae7405299e", func := "octroi/octroilaw04.CivilDates", spec := "civilDates", apart := false, narrowed := true }
def CivilDatesUptoSaid : Prop := civilDatesUptoRow.holds Try.pinned (OpenSpec.upto civilDatesSpec)

/-- 'octroilaw04.CivilPeriods', WHERE WHAT IT READS IS OF BULK AT MOST 1048576: true; the input reads as it did. -/
def civilPeriodsUptoRow : OpenClaim := { program := "ytckgjpklhfolnaa", sum := "fbdd8e3502961c46ecfe4d4bc91b650b70f91f9026566b8ddb38b1ae7405299e", func := "octroi/octroilaw04.CivilPeriods", spec := "civilPeriods", apart := false, narrowed := true }
def CivilPeriodsUptoSaid : Prop := civilPeriodsUptoRow.holds Try.pinned (OpenSpec.upto civilPeriodsSpec)

/-- 'octroilaw04.CivilChain', WHERE WHAT IT READS IS OF BULK AT MOST 1048576: true; the input reads as it did. -/
def civilChainUptoRow : OpenClaim := { program := "ytckgjpklhfolnaa", sum := "fbdd8e3502961c46ecfe4d4bc91b650b70f91f9026566b8ddb38b1ae7405299e", func := "octroi/octroilaw04.CivilChain", spec := "civilChain", unfollowed := true, recurses := true, apart := false, narrowed := true }
def CivilChainUptoSaid : Prop := civilChainUptoRow.holds Try.pinned (OpenSpec.upto civilChainSpec)

/-- 'octroilaw04.CivilOf', WHERE WHAT IT READS IS OF BULK AT MOST 1048576: true; the input reads as it did. -/
def civilOfUptoRow : OpenClaim := { program := "ytckgjpklhfolnaa", sum := "fbdd8e3502961c46ecfe4d4bc91b650b70f91f9026566b8ddb38b1ae7405299e", func := "octroi/octroilaw04.CivilOf", spec := "civilOf", unfollowed := true, recurses := true, apart := false, narrowed := true }
def CivilOfUptoSaid : Prop := civilOfUptoRow.holds Try.pinned (OpenSpec.upto civilOfSpec)

end Rows
end Go.Proofs.Ytckgjpklhfolnaa
