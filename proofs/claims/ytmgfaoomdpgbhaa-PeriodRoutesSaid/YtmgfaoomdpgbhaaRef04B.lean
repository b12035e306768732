/- Plain laws of periods (civil, octroiref04), over the printed functions. -/
import Derived.Test.YtmgfaoomdpgbhaaX0
import Derived.Test.YtmgfaoomdpgbhaaAx8
import Derived.Test.YtmgfaoomdpgbhaaCivilA
import Derived.Test.YtmgfaoomdpgbhaaRef04
import Derived.Test.YtmgfaoomdpgbhaaX3
import Derived.Test.YtmgfaoomdpgbhaaX5
import Derived.Test.YtmgfaoomdpgbhaaX6
import Derived.Test.YtmgfaoomdpgbhaaX7
import Derived.Test.YtmgfaoomdpgbhaaX8
namespace Go.Proofs.Ytmgfaoomdpgbhaa.Print
open Go.RowKit Go.Proofs.YtmgfaoomdpgbhaaW.PrintWords Go.Proofs.YtmgfaoomdpgbhaaW.PrintLast Go.Proofs.YtmgfaoomdpgbhaaW.PrintMore
set_option linter.unusedVariables false
set_option linter.unusedSimpArgs false

def manyV (kd : Int) : Int := if kd = 1 then 12 else if kd = 2 then 4 else if kd = 3 then 1 else 0
def eachV (kd : Int) : Int := if kd = 1 then 1 else if kd = 2 then 3 else 12
theorem many_cases (kd : Int) : (kd = 1 ∧ manyV kd = 12 ∧ eachV kd = 1) ∨ (kd = 2 ∧ manyV kd = 4 ∧ eachV kd = 3) ∨ (kd = 3 ∧ manyV kd = 1 ∧ eachV kd = 12) ∨ (kd ≠ 1 ∧ kd ≠ 2 ∧ kd ≠ 3 ∧ manyV kd = 0) := by
  unfold manyV eachV
  by_cases h1 : kd = 1
  · simp [h1]
  · by_cases h2 : kd = 2
    · simp [h2]
    · by_cases h3 : kd = 3
      · simp [h3]
      · simp [h1, h2, h3]
theorem pro_many (kd : Int) : civil_many.f kd = some (manyV kd) := by
  unfold civil_many.f manyV
  by_cases h1 : kd = 1 <;> by_cases h2 : kd = 2 <;> by_cases h3 : kd = 3 <;> simp [h1, h2, h3]
theorem ref_many (kd : Int) : octroiref04_Many.f kd = some (manyV kd) := by
  unfold octroiref04_Many.f manyV
  by_cases h1 : kd = 1 <;> by_cases h2 : kd = 2 <;> by_cases h3 : kd = 3 <;> simp [h1, h2, h3]
def goodB (kd y i : Int) : Bool := inY y && (decide (1 ≤ i) && decide (i ≤ manyV kd))
theorem goodB_iff (kd y i : Int) : goodB kd y i = true ↔ (1970 ≤ y ∧ y ≤ 9999) ∧ 1 ≤ i ∧ i ≤ manyV kd := by simp [goodB, inY]
theorem pro_good (kd y i : Int) : civil_Good.f kd y i = some (goodB kd y i) := by
  unfold civil_Good.f goodB
  rw [inYears_eq, pro_many]
  cases inY y <;> by_cases h : i ≥ 1 <;> simp [h] <;> omega
theorem ref_good (kd y i : Int) : octroiref04_Good.f kd y i = some (goodB kd y i) := by
  unfold octroiref04_Good.f goodB inY
  rw [ref_many]
  by_cases h1 : y ≥ 1970 <;> by_cases h2 : y ≤ 9999 <;> by_cases h : i ≥ 1 <;> simp [h, h1, h2] <;> omega
theorem many_bd (kd : Int) : 0 ≤ manyV kd ∧ manyV kd ≤ 12 := by rcases many_cases kd with h | h | h | h <;> omega
theorem each_bd (kd : Int) : 1 ≤ eachV kd ∧ eachV kd ≤ 12 := by unfold eachV; split <;> (try split) <;> omega
theorem each_tdiv (kd : Int) (h : manyV kd ≠ 0) : wrap64 (Int.tdiv 12 (manyV kd)) = eachV kd := by
  rcases many_cases kd with ⟨_, h2, h3⟩ | ⟨_, h2, h3⟩ | ⟨_, h2, h3⟩ | ⟨_, _, _, h2⟩
  · rw [h2, h3]; decide +kernel
  · rw [h2, h3]; decide +kernel
  · rw [h2, h3]; decide +kernel
  · exact absurd h2 h
/-- The months of a period that is right. -/
theorem good_months {kd y i : Int} (h : goodB kd y i = true) : inY y = true ∧ manyV kd ≠ 0 ∧ 1 ≤ (i - 1) * eachV kd + 1 ∧ (i - 1) * eachV kd + 1 ≤ i * eachV kd ∧ i * eachV kd ≤ 12 ∧ 0 ≤ (i - 1) * eachV kd ∧ 1 ≤ i ∧ i ≤ 12 := by
  have hg := (goodB_iff kd y i).1 h
  refine ⟨(inY_iff y).2 hg.1, ?_⟩
  rcases many_cases kd with ⟨_, h2, h3⟩ | ⟨_, h2, h3⟩ | ⟨_, h2, h3⟩ | ⟨_, _, _, h2⟩ <;> (try rw [h3]) <;> rw [h2] at hg ⊢ <;> omega
def firstV (kd y i : Int) : Int × Int := if goodB kd y i = true then dayV y ((i - 1) * eachV kd + 1) 1 else (0, 2)
def lastV (kd y i : Int) : Int × Int := if goodB kd y i = true then dayV y (i * eachV kd) (lenV y (i * eachV kd)) else (0, 2)
theorem len_in_bd (y m : Int) (hy : inY y = true) (h1 : 1 ≤ m) (h2 : m ≤ 12) : 28 ≤ lenV y m ∧ lenV y m ≤ 31 := by
  rw [lenV_12 y m hy h1 h2]
  unfold len12
  split
  · split <;> omega
  · repeat (first | omega | split)
theorem day_ok (y m d : Int) (hd : 1 ≤ d ∧ d ≤ lenV y m) : dayV y m d = (begV y + cumV (leapB y) (m.toNat - 1) + d - 1, 0) := by unfold dayV; rw [if_pos hd]
theorem ref_first (kd y i : Int) : Ev (fun k => octroiref04_First.f k kd y i) (firstV kd y i) := by
  unfold octroiref04_First.f firstV
  simp only [ref_good, ref_many, Option.bind_some]
  cases h : goodB kd y i with
  | false => exact cevn (fun k => by simp)
  | true =>
    have hm := good_months h
    have hl := len_in_bd y ((i - 1) * eachV kd + 1) hm.1 (by omega) (by omega)
    have hd := ref_day y ((i - 1) * eachV kd + 1) 1
    have hv := day_ok y ((i - 1) * eachV kd + 1) 1 (by omega)
    simp only [if_true]
    have := cevb hd (f := fun bt _ => some (bt.1, (0 : Int))) (r := dayV y ((i - 1) * eachV kd + 1) 1) (cevn (fun k => by rw [hv]))
    refine Ev.congr (fun k => ?_) this
    rw [if_neg hm.2.1, each_tdiv kd hm.2.1, cw64 (x := i - 1) (by omega) (by omega), cw64 (x := (i - 1) * eachV kd) (by omega) (by omega), cw64 (x := (i - 1) * eachV kd + 1) (by omega) (by omega)]
theorem ref_last (kd y i : Int) : Ev (fun k => octroiref04_Last.f k kd y i) (lastV kd y i) := by
  unfold octroiref04_Last.f lastV
  simp only [ref_good, ref_many, Option.bind_some]
  cases h : goodB kd y i with
  | false => exact cevn (fun k => by simp)
  | true =>
    have hm := good_months h
    have hl := len_in_bd y (i * eachV kd) hm.1 (by omega) (by omega)
    have hd := ref_day y (i * eachV kd) (lenV y (i * eachV kd))
    have hv := day_ok y (i * eachV kd) (lenV y (i * eachV kd)) (by omega)
    simp only [if_true]
    have := cevb (ref_len y (i * eachV kd)) (f := fun t k => (octroiref04_Day.f k y (i * eachV kd) t).bind fun bt => some (bt.1, (0 : Int))) (cevb hd (f := fun bt _ => some (bt.1, (0 : Int))) (r := dayV y (i * eachV kd) (lenV y (i * eachV kd))) (cevn (fun k => by rw [hv])))
    refine Ev.congr (fun k => ?_) this
    rw [if_neg hm.2.1, each_tdiv kd hm.2.1, cw64 (x := i * eachV kd) (by omega) (by omega)]
/-! the next ones -/
def numV (kd y i : Int) : Int := (y - 1970) * manyV kd + i - 1
def nextV (kd y i by_ : Int) : Int × Int × Int × Int :=
  if goodB kd y i = true then (if by_ < -numV kd y i ∨ by_ ≥ 8030 * manyV kd - numV kd y i then (0, 0, 0, 30) else (kd, 1970 + (numV kd y i + by_) / manyV kd, (numV kd y i + by_) % manyV kd + 1, 0)) else (0, 0, 0, 2)
theorem num_bd {kd y i : Int} (h : goodB kd y i = true) : 0 ≤ numV kd y i ∧ numV kd y i < 8030 * manyV kd ∧ 1 ≤ manyV kd ∧ 0 ≤ (y - 1970) * manyV kd ∧ (y - 1970) * manyV kd ≤ 96360 := by
  have hg := (goodB_iff kd y i).1 h
  unfold numV
  rcases many_cases kd with ⟨_, h2, h3⟩ | ⟨_, h2, h3⟩ | ⟨_, h2, h3⟩ | ⟨_, _, _, h2⟩ <;> rw [h2] at hg ⊢ <;> omega
theorem next_num {kd y i b : Int} (h : goodB kd y i = true) (h1 : ¬ (b < -numV kd y i)) (h2 : ¬ (b ≥ 8030 * manyV kd - numV kd y i)) : Int.tdiv (numV kd y i + b) (manyV kd) = (numV kd y i + b) / manyV kd ∧ Int.tmod (numV kd y i + b) (manyV kd) = (numV kd y i + b) % manyV kd ∧ 0 ≤ (numV kd y i + b) / manyV kd ∧ (numV kd y i + b) / manyV kd < 8030 ∧ 0 ≤ (numV kd y i + b) % manyV kd ∧ (numV kd y i + b) % manyV kd < manyV kd := by
  have hn := num_bd h
  have hm := many_bd kd
  refine ⟨Int.tdiv_eq_ediv_of_nonneg (by omega), Int.tmod_eq_emod_of_nonneg (by omega), Int.ediv_nonneg (by omega) (by omega), Int.ediv_lt_of_lt_mul (by omega) (by omega), Int.emod_nonneg _ (by omega), Int.emod_lt_of_pos _ (by omega)⟩
theorem pro_next (kd y i b : Int) (hb : -9223372036854775808 ≤ b ∧ b ≤ 9223372036854775807) : civil_Next.f kd y i b = some (nextV kd y i b) := by
  unfold civil_Next.f nextV
  rw [pro_good, pro_many]
  cases h : goodB kd y i with
  | false => simp
  | true =>
    have hn := num_bd h
    have hg := (goodB_iff kd y i).1 h
    have hm := many_bd kd
    simp only [Option.bind_some, if_true]
    have e1 : wrap64 (wrap64 (wrap64 (wrap64 (y - 1970) * manyV kd) + i) - 1) = numV kd y i := by
      unfold numV at hn ⊢
      rw [cw64 (x := y - 1970) (by omega) (by omega), cw64 (x := (y - 1970) * manyV kd) (by omega) (by omega), cw64 (x := (y - 1970) * manyV kd + i) (by omega) (by omega), cw64 (by omega) (by omega)]
    rw [e1, cw64 (x := -numV kd y i) (by omega) (by omega), cw64 (x := 8030 * manyV kd) (by omega) (by omega), cw64 (x := 8030 * manyV kd - 1) (by omega) (by omega), cw64 (x := 8030 * manyV kd - 1 - numV kd y i) (by omega) (by omega)]
    by_cases h1 : b < -numV kd y i
    · rw [if_pos h1, if_pos (.inl h1)]
    · by_cases h2 : b ≥ 8030 * manyV kd - numV kd y i
      · rw [if_neg h1, if_pos (by omega), if_pos (.inr h2)]
      · have hx := next_num h h1 h2
        rw [if_neg h1, if_neg (by omega), if_neg (by omega), if_neg (by omega), cw64 (x := numV kd y i + b) (by omega) (by omega), hx.1, hx.2.1, cw64 (x := (numV kd y i + b) / manyV kd) (by omega) (by omega), cw64 (x := 1970 + _) (by omega) (by omega), cw64 (by omega) (by omega)]
theorem ref_next (kd y i b : Int) (hb : -9223372036854775808 ≤ b ∧ b ≤ 9223372036854775807) : octroiref04_Next.f kd y i b = some (nextV kd y i b) := by
  unfold octroiref04_Next.f nextV octroiref04_Number.f
  rw [ref_good, ref_many]
  cases h : goodB kd y i with
  | false => simp
  | true =>
    have hn := num_bd h
    have hg := (goodB_iff kd y i).1 h
    have hm := many_bd kd
    simp only [Option.bind_some, if_true]
    have e1 : wrap64 (wrap64 (wrap64 (wrap64 (y - 1970) * manyV kd) + i) - 1) = numV kd y i := by
      unfold numV at hn ⊢
      rw [cw64 (x := y - 1970) (by omega) (by omega), cw64 (x := (y - 1970) * manyV kd) (by omega) (by omega), cw64 (x := (y - 1970) * manyV kd + i) (by omega) (by omega), cw64 (by omega) (by omega)]
    rw [e1, cw64 (x := -numV kd y i) (by omega) (by omega), cw64 (x := 8030 * manyV kd) (by omega) (by omega), cw64 (x := 8030 * manyV kd - numV kd y i) (by omega) (by omega)]
    by_cases h1 : b < -numV kd y i
    · rw [if_pos h1, if_pos (.inl h1)]
    · by_cases h2 : b ≥ 8030 * manyV kd - numV kd y i
      · rw [if_neg h1, if_pos h2, if_pos (.inr h2)]
      · have hx := next_num h h1 h2
        rw [if_neg h1, if_neg h2, if_neg (by omega), if_neg (by omega), cw64 (x := numV kd y i + b) (by omega) (by omega), hx.1, hx.2.1, cw64 (x := (numV kd y i + b) / manyV kd) (by omega) (by omega), cw64 (x := 1970 + _) (by omega) (by omega), cw64 (by omega) (by omega)]
def withinV (kd y i n : Int) : Bool := decide ((firstV kd y i).2 = 0) && (decide ((firstV kd y i).1 ≤ n) && decide (n ≤ (lastV kd y i).1))
theorem ref_within (kd y i n : Int) : Ev (fun k => octroiref04_Within.f k kd y i n) (withinV kd y i n) := by
  unfold octroiref04_Within.f
  refine cevb (ref_first kd y i) (f := fun bt1 k => ((octroiref04_Last.f k kd y i).bind fun bt2 => (if bt1.2 = 0 then (if n ≥ bt1.1 then (some (decide (n ≤ bt2.1))) else (some false)) else (some false)))) (cevb (ref_last kd y i) (f := fun bt2 _ => (if (firstV kd y i).2 = 0 then (if n ≥ (firstV kd y i).1 then (some (decide (n ≤ bt2.1))) else (some false)) else (some false))) (cevn (fun k => ?_)))
  unfold withinV
  by_cases h1 : (firstV kd y i).2 = 0 <;> by_cases h2 : n ≥ (firstV kd y i).1 <;> simp [h1, h2] <;> omega
end Go.Proofs.Ytmgfaoomdpgbhaa.Print
