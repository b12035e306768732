/- Plain laws of periods: the one that has a day, which comes first (civil, octroiref04), over the printed functions. -/
import Derived.Test.YtmgfaoomdpgbhaaX0
import Derived.Test.YtmgfaoomdpgbhaaCivilA
import Derived.Test.YtmgfaoomdpgbhaaRef04
import Derived.Test.YtmgfaoomdpgbhaaRef04B
import Derived.Test.YtmgfaoomdpgbhaaX4
import Derived.Test.YtmgfaoomdpgbhaaX6
import Derived.Test.YtmgfaoomdpgbhaaX7
import Derived.Test.YtmgfaoomdpgbhaaX8
namespace Go.Proofs.Ytmgfaoomdpgbhaa.Print
open Go.RowKit Go.Proofs.YtmgfaoomdpgbhaaW.PrintWords Go.Proofs.YtmgfaoomdpgbhaaW.PrintLast Go.Proofs.YtmgfaoomdpgbhaaW.PrintMore
set_option linter.unusedVariables false
set_option linter.unusedSimpArgs false

def cmpV (x y p q : Int) : Int := if x < y then -1 else if y < x then 1 else if p < q then -1 else if q < p then 1 else 0
theorem date_bd (n : Int) (h : (dateV n).2.2.2 = 0) : (0 ≤ n ∧ n ≤ 2932896) ∧ (dateV n).1 = yearV n ∧ (dateV n).2.1 = (monthV (leapB (yearV n)) (n - begV (yearV n)) : Int) := by
  unfold dateV at h ⊢
  by_cases hr : 0 ≤ n ∧ n ≤ 2932896
  · rw [if_pos hr] at h ⊢; exact ⟨hr, rfl, rfl⟩
  · rw [if_neg hr] at h; simp at h
theorem date_err (n : Int) : (dateV n).2.2.2 = 0 ∨ (dateV n) = (0, 0, 0, 30) := by
  unfold dateV
  by_cases hr : 0 ≤ n ∧ n ≤ 2932896
  · rw [if_pos hr]; exact .inl rfl
  · rw [if_neg hr]; exact .inr rfl
def ofV (n kd : Int) : Int × Int × Int × Int :=
  if (dateV n).2.2.2 = 0 then (if manyV kd = 0 then (0, 0, 0, 2) else (kd, (dateV n).1, ((dateV n).2.1 - 1) / eachV kd + 1, 0)) else (0, 0, 0, (dateV n).2.2.2)
theorem month_of (n : Int) (h : (dateV n).2.2.2 = 0) : 1 ≤ (dateV n).2.1 ∧ (dateV n).2.1 ≤ 12 ∧ 1970 ≤ (dateV n).1 ∧ (dateV n).1 ≤ 9999 := by
  obtain ⟨hr, h1, h2⟩ := date_bd n h
  have ys := year_spec n hr.1 hr.2
  have hs := beg_succ (yearV n) ys.1 ys.2.1
  have hlast : n - begV (yearV n) < cumV (leapB (yearV n)) 12 := by
    rw [cum_last]; unfold daysV at hs; omega
  have ms := month_spec (leapB (yearV n)) (n - begV (yearV n)) (by omega) hlast
  rw [h1, h2]; omega
theorem each_many (m kd : Int) (h1 : 1 ≤ m) (h2 : m ≤ 12) (h : manyV kd ≠ 0) : (m - 1) * manyV kd / 12 = (m - 1) / eachV kd ∧ 0 ≤ (m - 1) * manyV kd ∧ (m - 1) * manyV kd ≤ 132 ∧ 0 ≤ (m - 1) / eachV kd ∧ (m - 1) / eachV kd ≤ 11 := by
  rcases many_cases kd with ⟨_, e2, e3⟩ | ⟨_, e2, e3⟩ | ⟨_, e2, e3⟩ | ⟨_, _, _, e2⟩
  · rw [e2, e3]; omega
  · rw [e2, e3]; omega
  · rw [e2, e3]; omega
  · exact absurd e2 h
theorem pro_of (n kd : Int) : civil_Of.f n kd = some (ofV n kd) := by
  unfold civil_Of.f ofV
  rw [pro_date]
  simp only [Option.bind_some, pro_many]
  by_cases h : (dateV n).2.2.2 = 0
  · rw [if_pos h, if_pos h]
    have hm := month_of n h
    by_cases hk : manyV kd = 0
    · rw [if_pos hk, if_pos hk]
    · have he := each_many (dateV n).2.1 kd hm.1 hm.2.1 hk
      rw [if_neg hk, if_neg hk, cw64 (x := (dateV n).2.1 - 1) (by omega) (by omega), cw64 (x := ((dateV n).2.1 - 1) * manyV kd) (by omega) (by omega), Int.tdiv_eq_ediv_of_nonneg he.2.1, he.1, cw64 (x := ((dateV n).2.1 - 1) / eachV kd) (by omega) (by omega), cw64 (by omega) (by omega)]
  · rw [if_neg h, if_neg h]
theorem ref_of (n kd : Int) : Ev (fun k => octroiref04_Of.f k n kd) (ofV n kd) := by
  unfold octroiref04_Of.f
  refine cevb (ref_date n) (β := Int × Int × Int × Int) (f := fun bt261 k => (if bt261.2.2.2 = 0 then ((octroiref04_Many.f kd).bind fun t265 => (if t265 = 0 then (some (0, 0, 0, 2)) else ((octroiref04_Many.f kd).bind fun t266 => (if t266 = 0 then (none) else (if (wrap64 (Int.tdiv (12 : Int) t266)) = 0 then (none) else (some (kd, bt261.1, wrap64 ((wrap64 (Int.tdiv (wrap64 (bt261.2.1 - 1)) (wrap64 (Int.tdiv (12 : Int) t266)))) + 1), 0))))))) else (some (0, 0, 0, bt261.2.2.2)))) (cevn (fun k => ?_))
  unfold ofV
  simp only [Option.bind_some, ref_many]
  by_cases h : (dateV n).2.2.2 = 0
  · rw [if_pos h, if_pos h]
    have hm := month_of n h
    by_cases hk : manyV kd = 0
    · rw [if_pos hk, if_pos hk]
    · have he := each_many (dateV n).2.1 kd hm.1 hm.2.1 hk
      have hb := each_bd kd
      rw [if_neg hk, if_neg hk, if_neg hk, each_tdiv kd hk, if_neg (by omega), cw64 (x := (dateV n).2.1 - 1) (by omega) (by omega), Int.tdiv_eq_ediv_of_nonneg (by omega), cw64 (x := ((dateV n).2.1 - 1) / eachV kd) (by omega) (by omega), cw64 (by omega) (by omega)]
  · rw [if_neg h, if_neg h]
/-- The period that has a day has it. -/
theorem cum_le (b : Bool) (x y : Nat) (h : x ≤ y) (hy : y ≤ 12) : cumV b x ≤ cumV b y := by
  have := cum_mono b x (y - x) (by omega)
  rw [show x + (y - x) = y by omega] at this
  omega
theorem of_within (n kd : Int) (h : (ofV n kd).2.2.2 = 0) : withinV (ofV n kd).1 (ofV n kd).2.1 (ofV n kd).2.2.1 n = true := by
  unfold ofV at h ⊢
  by_cases hd : (dateV n).2.2.2 = 0
  · rw [if_pos hd] at h ⊢
    by_cases hk : manyV kd = 0
    · rw [if_pos hk] at h; simp at h
    · rw [if_neg hk]
      simp only []
      obtain ⟨hr, h1, h2⟩ := date_bd n hd
      have hm := month_of n hd
      have he := each_many (dateV n).2.1 kd hm.1 hm.2.1 hk
      have ys := year_spec n hr.1 hr.2
      have hs := beg_succ (yearV n) ys.1 ys.2.1
      have hlast : n - begV (yearV n) < cumV (leapB (yearV n)) 12 := by
        rw [cum_last]; unfold daysV at hs; omega
      have ms := month_spec (leapB (yearV n)) (n - begV (yearV n)) (by omega) hlast
      have hg : goodB kd (dateV n).1 (((dateV n).2.1 - 1) / eachV kd + 1) = true := by
        rw [goodB_iff]
        refine ⟨hm.2.2, by omega, ?_⟩
        rcases many_cases kd with ⟨_, e2, e3⟩ | ⟨_, e2, e3⟩ | ⟨_, e2, e3⟩ | ⟨_, _, _, e2⟩
        · rw [e2, e3]; omega
        · rw [e2, e3]; omega
        · rw [e2, e3]; omega
        · exact absurd e2 hk
      have gm := good_months hg
      have hin : (((dateV n).2.1 - 1) / eachV kd + 1 - 1) * eachV kd + 1 ≤ (dateV n).2.1 ∧ (dateV n).2.1 ≤ (((dateV n).2.1 - 1) / eachV kd + 1) * eachV kd := by
        rcases many_cases kd with ⟨_, e2, e3⟩ | ⟨_, e2, e3⟩ | ⟨_, e2, e3⟩ | ⟨_, _, _, e2⟩
        · rw [e3]; omega
        · rw [e3]; omega
        · rw [e3]; omega
        · exact absurd e2 hk
      unfold withinV firstV lastV
      rw [if_pos hg, if_pos hg]
      generalize ((dateV n).2.1 - 1) / eachV kd + 1 = i at *
      have l1 := len_in_bd (dateV n).1 ((i - 1) * eachV kd + 1) gm.1 (by omega) (by omega)
      have l2 := len_in_bd (dateV n).1 (i * eachV kd) gm.1 (by omega) (by omega)
      rw [day_ok _ _ 1 (by omega), day_ok _ _ (lenV (dateV n).1 (i * eachV kd)) (by omega)]
      rw [lenV_12 _ _ gm.1 (by omega) (by omega)] at l2 ⊢
      generalize hp : (i - 1) * eachV kd = p at *
      generalize hq : i * eachV kd = q at *
      obtain ⟨a, rfl⟩ := Int.eq_ofNat_of_zero_le (show 0 ≤ p by omega)
      obtain ⟨b, rfl⟩ := Int.eq_ofNat_of_zero_le (show 0 ≤ q by omega)
      rw [len12_eq _ b (by omega) (by omega)]
      rw [h1, h2] at *
      have c1 := cum_le (leapB (yearV n)) a (monthV (leapB (yearV n)) (n - begV (yearV n)) - 1) (by omega) (by omega)
      have c2 := cum_le (leapB (yearV n)) (monthV (leapB (yearV n)) (n - begV (yearV n))) b (by omega) (by omega)
      rw [show ((a : Int) + 1).toNat - 1 = a by omega, Int.toNat_natCast]
      simp only [Bool.and_eq_true, decide_eq_true_eq]
      refine ⟨trivial, ?_, ?_⟩
      · omega
      · omega
  · rw [if_neg hd] at h; exact absurd h hd

/-! which comes first -/
def cmpP (kd y i kd' y' i' : Int) : Int := if goodB kd y i = true ∧ goodB kd' y' i' = true then cmpV (firstV kd y i).1 (firstV kd' y' i').1 (lastV kd y i).1 (lastV kd' y' i').1 else 0
theorem first_err (kd y i : Int) : (firstV kd y i).2 = if goodB kd y i = true then 0 else 2 := by
  unfold firstV
  cases h : goodB kd y i with
  | false => simp
  | true =>
    have gm := good_months h
    have l1 := len_in_bd y ((i - 1) * eachV kd + 1) gm.1 (by omega) (by omega)
    rw [if_pos rfl, if_pos rfl, day_ok _ _ 1 (by omega)]
theorem cmpV_same (x p : Int) : cmpV x x p p = 0 := by unfold cmpV; repeat (rw [if_neg (by omega)])
theorem cmpP_same (kd y i : Int) : cmpP kd y i kd y i = 0 := by
  unfold cmpP
  split
  · exact cmpV_same _ _
  · rfl
theorem cmpV_turn (x y p q : Int) : cmpV x y p q = -cmpV y x q p := by
  unfold cmpV
  by_cases h1 : x < y <;> by_cases h2 : y < x <;> by_cases h3 : p < q <;> by_cases h4 : q < p <;> simp [h1, h2, h3, h4] <;> omega
theorem cmpP_turn (a b c d e f : Int) : cmpP a b c d e f = -cmpP d e f a b c := by
  unfold cmpP
  by_cases h : goodB a b c = true ∧ goodB d e f = true
  · rw [if_pos h, if_pos h.symm]; exact cmpV_turn _ _ _ _
  · rw [if_neg h, if_neg (fun k => h k.symm)]; rfl
theorem cmpV_bd (x y p q : Int) : -1 ≤ cmpV x y p q ∧ cmpV x y p q ≤ 1 := by unfold cmpV; repeat (first | omega | split)
theorem cmpP_bd (a b c d e f : Int) : -1 ≤ cmpP a b c d e f ∧ cmpP a b c d e f ≤ 1 := by
  unfold cmpP
  split
  · exact cmpV_bd _ _ _ _
  · omega
theorem cmp_j1 (x y p : Int) : Ev (fun k => octroiref04_Cmp.j1 k x y) (if x < y then -1 else if y < x then 1 else 0) := by
  refine Ev.step (f := fun _ => some (if x < y then -1 else if y < x then 1 else 0)) (fun k => ?_) (Ev.now _)
  simp only [octroiref04_Cmp.j1]
  by_cases h1 : x < y
  · rw [if_pos h1, if_pos h1]
  · by_cases h2 : y < x
    · rw [if_neg h1, if_pos h2, if_neg h1, if_pos h2]
    · rw [if_neg h1, if_neg h2, if_neg h1, if_neg h2]
theorem ref_cmp (a b c d e f : Int) : Ev (fun k => octroiref04_Cmp.f k a b c d e f) (cmpP a b c d e f) := by
  have hbad : ∀ x y : Int, Ev (fun k => octroiref04_Cmp.j0 k x y true a b c d e f) 0 := fun x y => Ev.step (f := fun _ => some 0) (fun k => by simp only [octroiref04_Cmp.j0]; rw [if_pos trivial]) (Ev.now _)
  unfold octroiref04_Cmp.f
  refine cevb (ref_first a b c) (f := fun bt269 k => ((octroiref04_First.f k d e f).bind fun bt271 => (if bt269.2 = 0 then (octroiref04_Cmp.j0 k bt269.1 bt271.1 (bt271.2 != 0) a b c d e f) else (octroiref04_Cmp.j0 k bt269.1 bt271.1 true a b c d e f)))) (cevb (ref_first d e f) (f := fun bt271 k => (if (firstV a b c).2 = 0 then (octroiref04_Cmp.j0 k (firstV a b c).1 bt271.1 (bt271.2 != 0) a b c d e f) else (octroiref04_Cmp.j0 k (firstV a b c).1 bt271.1 true a b c d e f))) ?_)
  have ha := first_err a b c
  have hd := first_err d e f
  by_cases ga : goodB a b c = true
  · rw [if_pos ga] at ha
    by_cases gd : goodB d e f = true
    · rw [if_pos gd] at hd
      unfold cmpP
      rw [if_pos ⟨ga, gd⟩]
      refine Ev.congr (f := fun k => octroiref04_Cmp.j0 k (firstV a b c).1 (firstV d e f).1 false a b c d e f) (fun k => by rw [if_pos ha, hd]; rfl) ?_
      by_cases hx : (firstV a b c).1 = (firstV d e f).1
      · have h := cevb (ref_last a b c) (f := fun bt1 k => (octroiref04_Last.f k d e f).bind fun bt2 => octroiref04_Cmp.j1 k bt1.1 bt2.1) (cevb (ref_last d e f) (f := fun bt2 k => octroiref04_Cmp.j1 k (lastV a b c).1 bt2.1) (cmp_j1 (lastV a b c).1 (lastV d e f).1 0))
        have hv : cmpV (firstV a b c).1 (firstV d e f).1 (lastV a b c).1 (lastV d e f).1 = (if (lastV a b c).1 < (lastV d e f).1 then -1 else if (lastV d e f).1 < (lastV a b c).1 then 1 else 0) := by
          unfold cmpV; rw [if_neg (by omega), if_neg (by omega)]
        rw [hv]
        exact Ev.step (fun k => by simp only [octroiref04_Cmp.j0]; rw [if_neg (by simp), if_pos hx]) h
      · have hv : cmpV (firstV a b c).1 (firstV d e f).1 (lastV a b c).1 (lastV d e f).1 = (if (firstV a b c).1 < (firstV d e f).1 then -1 else if (firstV d e f).1 < (firstV a b c).1 then 1 else 0) := by
          unfold cmpV
          by_cases h1 : (firstV a b c).1 < (firstV d e f).1
          · rw [if_pos h1, if_pos h1]
          · rw [if_neg h1, if_pos (by omega), if_neg h1, if_pos (by omega)]
        rw [hv]
        exact Ev.step (fun k => by simp only [octroiref04_Cmp.j0]; rw [if_neg (by simp), if_neg hx]) (cmp_j1 _ _ 0)
    · rw [if_neg gd] at hd
      have hv : cmpP a b c d e f = 0 := by unfold cmpP; rw [if_neg (fun h => gd h.2)]
      rw [hv]
      exact Ev.congr (fun k => by rw [if_pos ha, hd]; rfl) (hbad (firstV a b c).1 (firstV d e f).1)
  · rw [if_neg ga] at ha
    have hv : cmpP a b c d e f = 0 := by unfold cmpP; rw [if_neg (fun h => ga h.1)]
    rw [hv]
    exact Ev.congr (fun k => by rw [if_neg (by omega)]) (hbad (firstV a b c).1 (firstV d e f).1)
end Go.Proofs.Ytmgfaoomdpgbhaa.Print
