/- WideTurned. -/
import Derived.Test.YtcheokphnhjomaaX0
import Derived.Test.YtcheokphnhjomaaWideC
import Derived.Test.YtcheokphnhjomaaWideD
import Derived.Test.YtcheokphnhjomaaX2
import Derived.Test.YtcheokphnhjomaaWideD
namespace Go.Proofs.Ytcheokphnhjomaa.Pure
open Go.RowKit Go.Proofs.Ytcheokphnhjomaa.Print Go.Proofs.YtcheokphnhjomaaW.PrintWords Go.Proofs.YtcheokphnhjomaaW.PrintLast Go.Proofs.Ytcheokphnhjomaa.Ax
set_option linter.unusedVariables false
set_option linter.unusedSimpArgs false

theorem wide_lives : octroilaw02_lives.f = some true := by kernel_rfl

theorem WideTurned : octroilaw02_WideTurned.Pure := by
  intro a b c _ _ _
  refine ⟨1, ?_⟩
  unfold octroilaw02_WideTurned.f
  by_cases h1 : a < -4611686018427387904
  · rw [if_pos h1]; unfold octroilaw02_WideTurned.j0; simp [wide_lives]
  · rw [if_neg h1]
    by_cases h2 : a > 4611686018427387904
    · rw [decide_eq_true h2]; unfold octroilaw02_WideTurned.j0; simp [wide_lives]
    · rw [decide_eq_false h2]
      have hw : wrap64 (-a) = -a := wrap64_id (by omega) (by omega)
      unfold octroilaw02_WideTurned.j0
      have hb := mulDiv_bd (-a) b c
      have hv : wrap64 (-(mulDivV (-a) b c).1) = -(mulDivV (-a) b c).1 := wrap64_id (by omega) (by omega)
      have e := mulDiv_neg a b c
      have e1 : (mulDivV a b c).1 = -(mulDivV (-a) b c).1 := by conv => lhs; rw [e]
      have e2 : (mulDivV a b c).2 = (mulDivV (-a) b c).2 := by conv => lhs; rw [e]
      simp only [wide_MulDiv.f, Option.bind_some, hw, mulDiv_one a (by omega), wide_lives, hv]
      rw [if_neg (by decide), if_pos e1, if_pos e2]; rfl

end Go.Proofs.Ytcheokphnhjomaa.Pure
