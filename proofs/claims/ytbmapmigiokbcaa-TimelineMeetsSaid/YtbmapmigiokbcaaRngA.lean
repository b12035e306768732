/- Code in pieces: operations told by hand beside the evaluator's; a heap's thing seen another way. -/
import Derived.Test.YtbmapmigiokbcaaAx21
import Derived.Maps.RangeRun
namespace Go.Proofs.Ytbmapmigiokbcaa.Ax
open Go Go.RowKit
set_option linter.unusedVariables false
set_option linter.unusedSimpArgs false
section
variable {P : Program} {C : FuncId → Option Con} {cn : Nat → St → Option St} {E : Oper → (Operand → Option SV) → Nat → Rd Out} {n : Nat}
noncomputable def cdec (p : Prop) : Bool := @decide p (Classical.propDecidable p)
theorem cdec_true {p : Prop} : cdec p = true ↔ p := @decide_eq_true_iff p (Classical.propDecidable p)
end
end Go.Proofs.Ytbmapmigiokbcaa.Ax
