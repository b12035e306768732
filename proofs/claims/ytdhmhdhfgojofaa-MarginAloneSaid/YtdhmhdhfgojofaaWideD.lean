/- The document's answers about nought, times one, near; plain laws, no program in sight. -/
import Derived.Test.YtdhmhdhfgojofaaWideC
namespace Go.Proofs.Ytdhmhdhfgojofaa.Ax
open Go Go.RowKit
set_option linter.unusedVariables false
set_option linter.unusedSimpArgs false

theorem mag_neg (a : Int) : mag (-a) = mag a := by unfold mag; split <;> split <;> omega
theorem mag_nn (a : Int) : 0 ≤ mag a := by unfold mag; split <;> omega
theorem half_nn (p c : Int) (hp : 0 ≤ p) (hc : 0 < c) : 0 ≤ halfV p c := by
  unfold halfV; exact Int.ediv_nonneg (by omega) (by omega)
theorem half_spec (p c : Int) (hc : 0 < c) : 2 * c * halfV p c ≤ 2 * p + c ∧ 2 * p + c < 2 * c * halfV p c + 2 * c := by
  unfold halfV
  have h1 := Int.mul_ediv_add_emod (2 * p + c) (2 * c)
  have h2 := Int.emod_nonneg (2 * p + c) (b := 2 * c) (by omega)
  have h3 := Int.emod_lt_of_pos (2 * p + c) (b := 2 * c) (by omega)
  omega
theorem half_uniq (p c t : Int) (hc : 0 < c) (h1 : 2 * c * t ≤ 2 * p + c) (h2 : 2 * p + c < 2 * c * t + 2 * c) : halfV p c = t := by
  unfold halfV
  have e : 2 * p + c = (2 * p + c - 2 * c * t) + t * (2 * c) := by rw [Int.mul_comm t]; omega
  rw [e, Int.add_mul_ediv_right _ _ (by omega), Int.ediv_eq_zero_of_lt (by omega) (by omega)]
  omega
theorem mulDiv_bd (a b c : Int) : -4611686018427387904 ≤ (mulDivV a b c).1 ∧ (mulDivV a b c).1 ≤ 4611686018427387904 := by
  unfold mulDivV
  split
  · rename_i h
    rw [rightV_iff] at h
    unfold overV
    have := half_nn (mag a * mag b) c (Int.mul_nonneg (mag_nn a) (mag_nn b)) (by omega)
    split
    · split <;> simp only <;> omega
    · simp
  · simp
/-- Turned about nought. -/
theorem mulDiv_neg (a b c : Int) : mulDivV a b c = (-(mulDivV (-a) b c).1, (mulDivV (-a) b c).2) := by
  have hr : rightV (-a) b c = rightV a b c := by
    rw [Bool.eq_iff_iff, rightV_iff, rightV_iff]; omega
  unfold mulDivV
  rw [hr, mag_neg]
  cases h : rightV a b c with
  | false => rfl
  | true =>
    rw [rightV_iff] at h
    simp only [if_true]
    unfold overV
    have hz : a = 0 ∨ b = 0 → halfV (mag a * mag b) c = 0 := by
      intro hab
      have : mag a * mag b = 0 := by
        rcases hab with rfl | rfl
        · simp [mag]
        · simp [mag]
      rw [this]; unfold halfV; exact Int.ediv_eq_zero_of_lt (by omega) (by omega)
    by_cases hn : halfV (mag a * mag b) c ≤ 4611686018427387904
    · rw [if_pos hn, if_pos hn]
      by_cases hz0 : a = 0 ∨ b = 0
      · rw [hz hz0]; split <;> split <;> rfl
      · have hd : decide (-a < 0) = !decide (a < 0) := by
          by_cases h1 : a < 0
          · rw [decide_eq_true h1, decide_eq_false (by omega)]; rfl
          · rw [decide_eq_false h1, decide_eq_true (by omega)]; rfl
        rw [hd]
        cases decide (a < 0) <;> cases decide (b < 0) <;> simp
    · rw [if_neg hn, if_neg hn]; rfl
theorem mulDiv_one (a : Int) (h : -4611686018427387904 ≤ a ∧ a ≤ 4611686018427387904) : mulDivV a 1 1 = (a, 0) := by
  have hr : rightV a 1 1 = true := by rw [rightV_iff]; omega
  unfold mulDivV
  rw [if_pos hr]
  have hm : mag 1 = 1 := rfl
  have hh : halfV (mag a * mag 1) 1 = mag a := by
    rw [hm]; unfold halfV; omega
  rw [hh]
  have := mag_bd h
  unfold overV
  rw [if_pos this.2]
  unfold mag
  by_cases h1 : a < 0 <;> simp [h1]
/-- Of what is nought or more. -/
theorem mulDiv_pos (a b c : Int) (ha : 0 ≤ a ∧ a ≤ 4611686018427387904) (hb : 0 ≤ b ∧ b ≤ 4611686018427387904) (hc : 1 ≤ c ∧ c ≤ 4611686018427387904) (h : halfV (a * b) c ≤ 4611686018427387904) : mulDivV a b c = (halfV (a * b) c, 0) := by
  have hr : rightV a b c = true := by rw [rightV_iff]; omega
  unfold mulDivV
  rw [if_pos hr]
  have m1 : mag a = a := by unfold mag; rw [if_neg (by omega)]
  have m2 : mag b = b := by unfold mag; rw [if_neg (by omega)]
  rw [m1, m2]
  unfold overV
  rw [if_pos h, decide_eq_false (show ¬ a < 0 by omega), decide_eq_false (show ¬ b < 0 by omega)]
  rfl
theorem wrap64_id {x : Int} (h : -9223372036854775808 ≤ x) (h2 : x < 9223372036854775808) : wrap64 x = x := by unfold wrap64; omega
theorem mul_bd (a b m n : Int) (ha : 0 ≤ a) (hb : 0 ≤ b) (h1 : a ≤ m) (h2 : b ≤ n) : 0 ≤ a * b ∧ a * b ≤ m * n :=
  ⟨Int.mul_nonneg ha hb, Int.mul_le_mul h1 h2 hb (by omega)⟩

theorem mag_mul (a b : Int) : mag a * mag b = (if a * b < 0 then -(a * b) else a * b) ∧ (a * b = 0 ∨ decide (a * b < 0) = (decide (a < 0) != decide (b < 0))) := by
  unfold mag
  by_cases ha : a < 0
  · by_cases hb : b < 0
    · have := Int.mul_pos_of_neg_of_neg ha hb
      rw [if_pos ha, if_pos hb, Int.neg_mul_neg, if_neg (by omega)]
      exact ⟨rfl, .inr (by rw [decide_eq_true ha, decide_eq_true hb, decide_eq_false (by omega)]; rfl)⟩
    · rw [if_pos ha, if_neg hb, Int.neg_mul]
      rcases (show b = 0 ∨ 0 < b by omega) with h0 | h0
      · subst h0; simp
      · have := Int.mul_neg_of_neg_of_pos ha h0
        rw [if_pos this]
        exact ⟨rfl, .inr (by rw [decide_eq_true ha, decide_eq_false hb, decide_eq_true this]; rfl)⟩
  · by_cases hb : b < 0
    · rw [if_neg ha, if_pos hb, Int.mul_neg]
      rcases (show a = 0 ∨ 0 < a by omega) with h0 | h0
      · subst h0; simp
      · have := Int.mul_neg_of_pos_of_neg h0 hb
        rw [if_pos this]
        exact ⟨rfl, .inr (by rw [decide_eq_false ha, decide_eq_true hb, decide_eq_true this]; rfl)⟩
    · have := Int.mul_nonneg (show 0 ≤ a by omega) (show 0 ≤ b by omega)
      rw [if_neg ha, if_neg hb, if_neg (by omega)]
      exact ⟨rfl, .inr (by rw [decide_eq_false ha, decide_eq_false hb, decide_eq_false (by omega)]; rfl)⟩

end Go.Proofs.Ytdhmhdhfgojofaa.Ax
