/- WideInside. -/
import Derived.Test.YtcheokphnhjomaaX0
import Derived.Test.YtcheokphnhjomaaAx7
import Derived.Test.YtcheokphnhjomaaPureWideTurned
import Derived.Test.YtcheokphnhjomaaWideC
import Derived.Test.YtcheokphnhjomaaWideD
import Derived.Test.YtcheokphnhjomaaX2
import Derived.Test.YtcheokphnhjomaaPureWideTurned
namespace Go.Proofs.Ytcheokphnhjomaa.Pure
open Go.RowKit Go.Proofs.Ytcheokphnhjomaa.Print Go.Proofs.YtcheokphnhjomaaW.PrintWords Go.Proofs.YtcheokphnhjomaaW.PrintLast Go.Proofs.Ytcheokphnhjomaa.Ax
set_option linter.unusedVariables false
set_option linter.unusedSimpArgs false

theorem inside_j (a b : Int) (h0 : 0 ≤ a) (h1 : a ≤ 1125899906842624) (h2 : 0 ≤ b) (h3 : b ≤ 10000) :
    octroilaw02_WideInside.j0 1 a b false = some true := by
  obtain ⟨p, hp⟩ : ∃ p, p = a * b := ⟨_, rfl⟩
  have hpb := mul_bd a b 1125899906842624 10000 h0 h2 h1 h3
  rw [← hp] at hpb
  obtain ⟨s1, s2⟩ := half_spec p 10000 (by omega)
  have s0 := half_nn p 10000 (by omega) (by omega)
  obtain ⟨t, ht⟩ : ∃ t, t = halfV p 10000 := ⟨_, rfl⟩
  rw [← ht] at s0 s1 s2
  have hm : mulDivV a b 10000 = (t, 0) := by
    have := mulDiv_pos a b 10000 (by omega) (by omega) (by omega) (by rw [← hp, ← ht]; omega)
    rw [this, ← hp, ← ht]
  have htb := mul_bd t b 1125899906842625 10000 s0 h2 (by omega) h3
  have hu : halfV ((a + t) * b) (10000 + b) = t := by
    have d1 : (a + t) * b = p + t * b := by rw [hp, Int.add_mul]
    have d2 : 2 * (10000 + b) * t = 20000 * t + 2 * (t * b) := by
      rw [Int.mul_comm t b, Int.mul_add, Int.add_mul, Int.mul_assoc 2 b t]; rfl
    rw [d1]
    apply half_uniq
    · omega
    · rw [d2]; omega
    · rw [d2]; omega
  have hm2 : mulDivV (a + t) b (10000 + b) = (t, 0) := by
    have := mulDiv_pos (a + t) b (10000 + b) (by omega) (by omega) (by omega) (by rw [hu]; omega)
    rw [this, hu]
  unfold octroilaw02_WideInside.j0 wide_Tax.f wide_Inside.f
  have w1 : wrap64 (10000 + b) = 10000 + b := wrap64_id (by omega) (by omega)
  have w2 : wrap64 (a + t) = a + t := wrap64_id (by omega) (by omega)
  have n1 : ¬ b < 0 := by omega
  have n2 : ¬ b > 10000 := by omega
  simp only [wide_MulDiv.f, if_neg n1, if_neg n2, hm, Option.bind_some, w1, w2, hm2, wide_lives]
  rfl
theorem WideInside : octroilaw02_WideInside.Pure := by
  intro a b _ _
  refine ⟨1, ?_⟩
  have hj : octroilaw02_WideInside.j0 1 a b true = some true := by unfold octroilaw02_WideInside.j0; simp [wide_lives]
  unfold octroilaw02_WideInside.f
  rw [hj]
  by_cases g1 : a < 0
  · rw [if_pos g1]
  rw [if_neg g1]
  by_cases g2 : a > 1125899906842624
  · rw [if_pos g2]
  rw [if_neg g2]
  by_cases g3 : b < 0
  · rw [if_pos g3]
  rw [if_neg g3]
  by_cases g4 : b > 10000
  · rw [decide_eq_true g4, hj]
  rw [decide_eq_false g4]
  exact inside_j a b (by omega) (by omega) (by omega) (by omega)

end Go.Proofs.Ytcheokphnhjomaa.Pure
