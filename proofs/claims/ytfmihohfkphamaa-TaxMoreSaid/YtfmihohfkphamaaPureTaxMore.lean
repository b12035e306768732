/- TaxMore. -/
import Derived.Test.YtfmihohfkphamaaX0
import Derived.Test.YtfmihohfkphamaaAx8
import Derived.Test.YtfmihohfkphamaaPureLivesTax
import Derived.Test.YtfmihohfkphamaaTaxA
import Derived.Test.YtfmihohfkphamaaX3
import Derived.Test.YtfmihohfkphamaaPureLivesTax
namespace Go.Proofs.Ytfmihohfkphamaa.Pure
open Go.RowKit Go.Proofs.Ytfmihohfkphamaa.Print Go.Proofs.YtfmihohfkphamaaW.PrintWords Go.Proofs.YtfmihohfkphamaaW.PrintLast
set_option linter.unusedVariables false
set_option linter.unusedSimpArgs false

theorem more_j0 (a m : Int) (g : Bool) (b d : Int) (h1 : 0 ≤ a) (h2 : 0 ≤ m) (h3 : a ≤ 1125899906842624) (h4 : m ≤ 1125899906842624) (h5 : 0 ≤ b) (h6 : 0 ≤ d) (h7 : b ≤ 10000) (h8 : d ≤ 10000 - b) :
    octroilaw21_TaxMore.j0 2 a m g b d false = some true := by
  obtain ⟨p1, p2⟩ := Ax.partV_pos a g b h1 (by omega) ⟨h5, h7⟩
  obtain ⟨q1, q2⟩ := Ax.partV_pos (a + m) g b (by omega) (by omega) ⟨h5, h7⟩
  obtain ⟨r1, r2⟩ := Ax.partV_pos a g (b + d) h1 (by omega) ⟨by omega, by omega⟩
  have w1 : wrap64 (a + m) = a + m := by unfold wrap64; omega
  have w2 : wrap64 (b + d) = b + d := by unfold wrap64; omega
  have m1 : a * b ≤ (a + m) * b := Int.mul_le_mul_of_nonneg_right (by omega) h5
  have m2 : a * b ≤ a * (b + d) := Int.mul_le_mul_of_nonneg_left (by omega) h1
  have le1 : (Ax.partV a g b).2.1 ≤ (Ax.partV (a + m) g b).2.1 := by
    rw [p1, q1]
    cases g with
    | true => exact Ax.half_mono _ _ _ (by omega) m1
    | false => exact Ax.half_mono _ _ _ (by omega) m1
  have le2 : (Ax.partV a g b).2.1 ≤ (Ax.partV a g (b + d)).2.1 := by
    rw [p1, r1]
    cases g with
    | true => exact Ax.half_rate a b d h1 h5 h6
    | false => exact Ax.half_mono _ _ _ (by omega) m2
  simp only [octroilaw21_TaxMore.j0, Bool.false_eq_true, if_false, tax_Part.f, Option.bind_some, w1, w2]
  rw [if_pos p2, if_pos q2, if_pos r2, if_pos le1, if_pos le2, tax_lives]; rfl
theorem TaxMore : octroilaw21_TaxMore.Pure := by
  intro a m g b d _ _ _ _
  refine ⟨2, ?_⟩
  have hj : octroilaw21_TaxMore.j0 2 a m g b d true = some true := by
    simp only [octroilaw21_TaxMore.j0, if_true, tax_lives, Option.bind_some]
  unfold octroilaw21_TaxMore.f
  rw [hj]
  by_cases g1 : a < 0
  · rw [if_pos g1]
  rw [if_neg g1]
  by_cases g2 : m < 0
  · rw [if_pos g2]
  rw [if_neg g2]
  by_cases g3 : a > 1125899906842624
  · rw [if_pos g3]
  rw [if_neg g3]
  by_cases g4 : m > 1125899906842624
  · rw [if_pos g4]
  rw [if_neg g4]
  by_cases g5 : b < 0
  · rw [if_pos g5]
  rw [if_neg g5]
  by_cases g6 : d < 0
  · rw [if_pos g6]
  rw [if_neg g6]
  by_cases g7 : b > 10000
  · rw [if_pos g7]
  rw [if_neg g7]
  have w3 : wrap64 (10000 - b) = 10000 - b := by unfold wrap64; omega
  rw [w3]
  by_cases g8 : d > 10000 - b
  · rw [decide_eq_true g8, hj]
  rw [decide_eq_false g8]
  exact more_j0 a m g b d (by omega) (by omega) (by omega) (by omega) (by omega) (by omega) (by omega) (by omega)

end Go.Proofs.Ytfmihohfkphamaa.Pure
