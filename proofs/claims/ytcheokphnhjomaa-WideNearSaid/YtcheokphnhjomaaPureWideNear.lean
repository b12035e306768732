/- WideNear. -/
import Derived.Test.YtcheokphnhjomaaX0
import Derived.Test.YtcheokphnhjomaaAx7
import Derived.Test.YtcheokphnhjomaaPureWideTurned
import Derived.Test.YtcheokphnhjomaaWideC
import Derived.Test.YtcheokphnhjomaaWideD
import Derived.Test.YtcheokphnhjomaaX2
import Derived.Test.YtcheokphnhjomaaPureWideTurned
namespace Go.Proofs.Ytcheokphnhjomaa.Pure
open Go.RowKit Go.Proofs.Ytcheokphnhjomaa.Print Go.Proofs.YtcheokphnhjomaaW.PrintWords Go.Proofs.YtcheokphnhjomaaW.PrintLast Go.Proofs.Ytcheokphnhjomaa.Ax
set_option linter.unusedVariables false
set_option linter.unusedSimpArgs false

theorem near_j (a b c : Int) (h0 : 0 ≤ a) (h1 : 0 ≤ b) (h2 : a ≤ 1073741824) (h3 : b ≤ 1073741824) (h4 : 1 ≤ c) (h5 : c ≤ 1073741824) :
    octroilaw02_WideNear.j0 1 a b c false = some true := by
  obtain ⟨p, hp⟩ : ∃ p, p = a * b := ⟨_, rfl⟩
  have hpb := mul_bd a b 1073741824 1073741824 h0 h1 h2 h3
  rw [← hp] at hpb
  obtain ⟨s1, s2⟩ := half_spec p c (by omega)
  have s0 := half_nn p c (by omega) (by omega)
  obtain ⟨x, hx⟩ : ∃ x, x = halfV p c := ⟨_, rfl⟩
  rw [← hx] at s0 s1 s2
  have hxc : 2 * c * x = 2 * (x * c) := by rw [Int.mul_assoc, Int.mul_comm c]
  obtain ⟨y, hy⟩ : ∃ y, y = x * c := ⟨_, rfl⟩
  rw [← hy] at hxc
  have hxy : x ≤ y := by
    have := Int.mul_le_mul_of_nonneg_left h4 s0
    omega
  have hm : mulDivV a b c = (x, 0) := by
    have := mulDiv_pos a b c (by omega) (by omega) (by omega) (by rw [← hp, ← hx]; omega)
    rw [this, ← hp, ← hx]
  unfold octroilaw02_WideNear.j0
  have w1 : wrap64 (wrap64 (2 * a) * b) = 2 * p := by
    rw [wrap64_id (x := 2 * a) (by omega) (by omega), Int.mul_assoc, ← hp]; exact wrap64_id (by omega) (by omega)
  have w2 : wrap64 (wrap64 (2 * x) * c) = 2 * y := by
    rw [wrap64_id (x := 2 * x) (by omega) (by omega), Int.mul_assoc, ← hy]; exact wrap64_id (by omega) (by omega)
  have w3 : wrap64 (2 * p - 2 * y) = 2 * p - 2 * y := wrap64_id (by omega) (by omega)
  have w4 : wrap64 (-c) = -c := wrap64_id (by omega) (by omega)
  simp only [wide_MulDiv.f, hm, Option.bind_some, w1, w2, w3, w4, wide_lives]
  rw [if_neg (by decide), if_pos trivial, if_neg (by omega), if_pos (by omega), if_pos (by omega)]
theorem WideNear : octroilaw02_WideNear.Pure := by
  intro a b c _ _ _
  refine ⟨1, ?_⟩
  have hj : octroilaw02_WideNear.j0 1 a b c true = some true := by unfold octroilaw02_WideNear.j0; simp [wide_lives]
  unfold octroilaw02_WideNear.f
  rw [hj]
  by_cases g1 : a < 0
  · rw [if_pos g1]
  rw [if_neg g1]
  by_cases g2 : b < 0
  · rw [if_pos g2]
  rw [if_neg g2]
  by_cases g3 : a > 1073741824
  · rw [if_pos g3]
  rw [if_neg g3]
  by_cases g4 : b > 1073741824
  · rw [if_pos g4]
  rw [if_neg g4]
  by_cases g5 : c < 1
  · rw [if_pos g5]
  rw [if_neg g5]
  by_cases g6 : c > 1073741824
  · rw [decide_eq_true g6, hj]
  rw [decide_eq_false g6]
  exact near_j a b c (by omega) (by omega) (by omega) (by omega) (by omega) (by omega)

end Go.Proofs.Ytcheokphnhjomaa.Pure
