/- Plain laws of periods, one behind the other (civil), over the printed functions. -/
import Derived.Test.YtmgfaoomdpgbhaaX0
import Derived.Test.YtmgfaoomdpgbhaaCivilA
import Derived.Test.YtmgfaoomdpgbhaaRef04
import Derived.Test.YtmgfaoomdpgbhaaRef04B
import Derived.Test.YtmgfaoomdpgbhaaRef04C
namespace Go.Proofs.Ytmgfaoomdpgbhaa.Print
open Go.RowKit Go.Proofs.YtmgfaoomdpgbhaaW.PrintWords Go.Proofs.YtmgfaoomdpgbhaaW.PrintLast Go.Proofs.YtmgfaoomdpgbhaaW.PrintMore
set_option linter.unusedVariables false
set_option linter.unusedSimpArgs false

theorem q4 {a b c d b' c' : Int} (h1 : b = b') (h2 : c = c') : (a, b, c, d) = (a, b', c', d) := by rw [h1, h2]
theorem date_of_day (y m d : Int) (hy : inY y = true) (h1 : 1 ≤ m) (h2 : m ≤ 12) (hd : 1 ≤ d ∧ d ≤ lenV y m) : dateV (begV y + cumV (leapB y) (m.toNat - 1) + d - 1) = (y, m, d, 0) := by
  obtain ⟨k, rfl⟩ := Int.eq_ofNat_of_zero_le (show 0 ≤ m by omega)
  rw [Int.toNat_natCast]
  have hyy := (inY_iff y).1 hy
  rw [lenV_in y k hy (by omega) (by omega), len12_eq _ k (by omega) (by omega)] at hd
  have hb := beg_bd y hyy.1 (by omega)
  have hs := beg_succ y hyy.1 hyy.2
  have hb2 := beg_bd (y + 1) (by omega) (by omega)
  have hl := cum_last (leapB y)
  have c1 := cum_le (leapB y) k 12 (by omega) (by omega)
  have c0 := cum_bd (leapB y) (k - 1)
  have hlt : begV y + cumV (leapB y) (k - 1) + d - 1 < begV (y + 1) := by unfold daysV at hs; omega
  have hn : 0 ≤ begV y + cumV (leapB y) (k - 1) + d - 1 ∧ begV y + cumV (leapB y) (k - 1) + d - 1 ≤ 2932896 := by
    constructor
    · omega
    · omega
  generalize hN : begV y + cumV (leapB y) (k - 1) + d - 1 = n at *
  have ys := year_spec n hn.1 hn.2
  have hyu := year_unique n (yearV n) y ys.1 ys.2.1 hyy.1 hyy.2 ys.2.2.1 ys.2.2.2 (by omega) hlt
  have ms := month_spec (leapB y) (n - begV y) (by omega) (by unfold daysV at hs; omega)
  have hmu := month_unique (leapB y) (n - begV y) (monthV (leapB y) (n - begV y)) k ms.1 ms.2.1 (by omega) (by omega) ms.2.2.1 ms.2.2.2 (by omega) (by omega)
  unfold dateV
  rw [if_pos hn, hyu, hmu]
  congr 3
  omega
theorem first_val {kd y i : Int} (h : goodB kd y i = true) : firstV kd y i = (begV y + cumV (leapB y) ((i - 1) * eachV kd).toNat, 0) := by
  have gm := good_months h
  have l1 := len_in_bd y ((i - 1) * eachV kd + 1) gm.1 (by omega) (by omega)
  unfold firstV
  rw [if_pos h, day_ok _ _ 1 (by omega), show ((i - 1) * eachV kd + 1).toNat - 1 = ((i - 1) * eachV kd).toNat by omega]
  congr 1; omega
theorem last_val {kd y i : Int} (h : goodB kd y i = true) : lastV kd y i = (begV y + cumV (leapB y) (i * eachV kd).toNat - 1, 0) := by
  have gm := good_months h
  have l1 := len_in_bd y (i * eachV kd) gm.1 (by omega) (by omega)
  unfold lastV
  rw [if_pos h, day_ok _ _ _ (by omega)]
  obtain ⟨k, hk⟩ := Int.eq_ofNat_of_zero_le (show 0 ≤ i * eachV kd by omega)
  rw [hk] at l1 ⊢
  rw [lenV_in y k gm.1 (by omega) (by omega), len12_eq _ k (by omega) (by omega), Int.toNat_natCast]
  congr 1; omega
theorem of_first {kd y i : Int} (h : goodB kd y i = true) : ofV (firstV kd y i).1 kd = (kd, y, i, 0) := by
  have gm := good_months h
  have l1 := len_in_bd y ((i - 1) * eachV kd + 1) gm.1 (by omega) (by omega)
  have hd := date_of_day y ((i - 1) * eachV kd + 1) 1 gm.1 (by omega) (by omega) (by omega)
  have hf : (firstV kd y i).1 = begV y + cumV (leapB y) (((i - 1) * eachV kd + 1).toNat - 1) + 1 - 1 := by
    unfold firstV; rw [if_pos h, day_ok _ _ 1 (by omega)]
  rw [hf]
  unfold ofV
  rw [hd, if_pos rfl, if_neg gm.2.1]
  simp only []
  congr 3
  rcases many_cases kd with ⟨_, e2, e3⟩ | ⟨_, e2, e3⟩ | ⟨_, e2, e3⟩ | ⟨_, _, _, e2⟩
  · rw [e3]; omega
  · rw [e3]; omega
  · rw [e3]; omega
  · exact absurd e2 gm.2.1
theorem of_last {kd y i : Int} (h : goodB kd y i = true) : ofV (lastV kd y i).1 kd = (kd, y, i, 0) := by
  have gm := good_months h
  have l1 := len_in_bd y (i * eachV kd) gm.1 (by omega) (by omega)
  have hd := date_of_day y (i * eachV kd) (lenV y (i * eachV kd)) gm.1 (by omega) (by omega) (by omega)
  have hf : (lastV kd y i).1 = begV y + cumV (leapB y) ((i * eachV kd).toNat - 1) + lenV y (i * eachV kd) - 1 := by
    unfold lastV; rw [if_pos h, day_ok _ _ _ (by omega)]
  rw [hf]
  unfold ofV
  rw [hd, if_pos rfl, if_neg gm.2.1]
  simp only []
  congr 3
  rcases many_cases kd with ⟨_, e2, e3⟩ | ⟨_, e2, e3⟩ | ⟨_, e2, e3⟩ | ⟨_, _, _, e2⟩
  · rw [e3]; omega
  · rw [e3]; omega
  · rw [e3]; omega
  · exact absurd e2 gm.2.1
theorem first_le_last {kd y i : Int} (h : goodB kd y i = true) : (firstV kd y i).1 ≤ (lastV kd y i).1 := by
  have gm := good_months h
  rw [first_val h, last_val h]
  have c := cum_mono (leapB y) ((i - 1) * eachV kd).toNat ((i * eachV kd).toNat - ((i - 1) * eachV kd).toNat) (by omega)
  rw [show ((i - 1) * eachV kd).toNat + ((i * eachV kd).toNat - ((i - 1) * eachV kd).toNat) = (i * eachV kd).toNat by omega] at c
  simp only []
  omega
/-- The next one: in the same year, or the first one of the next year, or there is none. -/
theorem next_one {kd y i : Int} (h : goodB kd y i = true) :
    (i < manyV kd ∧ nextV kd y i 1 = (kd, y, i + 1, 0) ∧ goodB kd y (i + 1) = true) ∨ (i = manyV kd ∧ y < 9999 ∧ nextV kd y i 1 = (kd, y + 1, 1, 0) ∧ goodB kd (y + 1) 1 = true) ∨ (i = manyV kd ∧ y = 9999 ∧ nextV kd y i 1 = (0, 0, 0, 30)) := by
  have hg := (goodB_iff kd y i).1 h
  unfold nextV numV
  rw [if_pos h]
  simp only [goodB_iff]
  rcases many_cases kd with ⟨_, e2, e3⟩ | ⟨_, e2, e3⟩ | ⟨_, e2, e3⟩ | ⟨_, _, _, e2⟩
  all_goals rw [e2] at hg ⊢
  · by_cases hi : i < 12
    · left; rw [if_neg (by omega)]; refine ⟨hi, ?_, by omega⟩; exact q4 (by omega) (by omega)
    · right
      by_cases hy : y < 9999
      · left; rw [if_neg (by omega)]; refine ⟨by omega, hy, ?_, by omega⟩; exact q4 (by omega) (by omega)
      · right; rw [if_pos (by omega)]; exact ⟨by omega, by omega, rfl⟩
  · by_cases hi : i < 4
    · left; rw [if_neg (by omega)]; refine ⟨hi, ?_, by omega⟩; exact q4 (by omega) (by omega)
    · right
      by_cases hy : y < 9999
      · left; rw [if_neg (by omega)]; refine ⟨by omega, hy, ?_, by omega⟩; exact q4 (by omega) (by omega)
      · right; rw [if_pos (by omega)]; exact ⟨by omega, by omega, rfl⟩
  · right
    by_cases hy : y < 9999
    · left; rw [if_neg (by omega)]; refine ⟨by omega, hy, ?_, by omega⟩; exact q4 (by omega) (by omega)
    · right; rw [if_pos (by omega)]; exact ⟨by omega, by omega, rfl⟩
  · omega
theorem back_one {kd y i : Int} (h : goodB kd y i = true) : (1 < i → nextV kd y i (-1) = (kd, y, i - 1, 0)) ∧ (i = 1 → 1970 < y → nextV kd y i (-1) = (kd, y - 1, manyV kd, 0)) := by
  have hg := (goodB_iff kd y i).1 h
  unfold nextV numV
  rw [if_pos h]
  rcases many_cases kd with ⟨_, e2, e3⟩ | ⟨_, e2, e3⟩ | ⟨_, e2, e3⟩ | ⟨_, _, _, e2⟩
  all_goals rw [e2] at hg ⊢
  · refine ⟨fun hi => ?_, fun hi hy => ?_⟩ <;> rw [if_neg (by omega)] <;> exact q4 (by omega) (by omega)
  · refine ⟨fun hi => ?_, fun hi hy => ?_⟩ <;> rw [if_neg (by omega)] <;> exact q4 (by omega) (by omega)
  · refine ⟨fun hi => ?_, fun hi hy => ?_⟩
    · omega
    · rw [if_neg (by omega)]; exact q4 (by omega) (by omega)
  · omega
theorem many_each (kd : Int) (h : manyV kd ≠ 0) : manyV kd * eachV kd = 12 := by
  rcases many_cases kd with ⟨_, e2, e3⟩ | ⟨_, e2, e3⟩ | ⟨_, e2, e3⟩ | ⟨_, _, _, e2⟩
  · rw [e2, e3]; rfl
  · rw [e2, e3]; rfl
  · rw [e2, e3]; rfl
  · exact absurd e2 h
theorem cmp_less {a b c d e f : Int} (h1 : goodB a b c = true) (h2 : goodB d e f = true) (h : (lastV a b c).1 + 1 = (firstV d e f).1) : cmpP a b c d e f = -1 := by
  have := first_le_last h1
  unfold cmpP cmpV
  rw [if_pos ⟨h1, h2⟩, if_pos (by omega)]
theorem chain_same {kd y i : Int} (h : goodB kd y i = true) (h' : goodB kd y (i + 1) = true) : (lastV kd y i).1 + 1 = (firstV kd y (i + 1)).1 := by
  rw [last_val h, first_val h', show i + 1 - 1 = i by omega]
  simp only []; omega
theorem chain_next {kd y i : Int} (h : goodB kd y i = true) (hi : i = manyV kd) (h' : goodB kd (y + 1) 1 = true) : (lastV kd y i).1 + 1 = (firstV kd (y + 1) 1).1 := by
  have hg := (goodB_iff kd y i).1 h
  have gm := good_months h
  have hs := beg_succ y hg.1.1 hg.1.2
  have hm := many_each kd gm.2.1
  have hl := cum_last (leapB y)
  rw [last_val h, first_val h', hi, hm, show (1 - 1) * eachV kd = 0 by omega]
  simp only [Int.toNat_zero, cum_first]
  rw [show Int.toNat 12 = 12 from rfl]
  unfold daysV at hs; omega
theorem chain_end {kd : Int} (h : goodB kd 9999 (manyV kd) = true) : (lastV kd 9999 (manyV kd)).1 = 2932896 := by
  have gm := good_months h
  rw [last_val h, many_each kd gm.2.1]
  decide +kernel
end Go.Proofs.Ytmgfaoomdpgbhaa.Print
