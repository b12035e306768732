/- A text of this seat. -/
import Derived.Test.YtmgfaoomdpgbhaaX0
import Derived.Test.YtmgfaoomdpgbhaaCivilA
import Derived.Test.YtmgfaoomdpgbhaaX2
import Derived.Test.YtmgfaoomdpgbhaaX6
import Derived.Test.YtmgfaoomdpgbhaaX8
namespace Go.Proofs.Ytmgfaoomdpgbhaa.Print
open Go.RowKit Go.Proofs.YtmgfaoomdpgbhaaW.PrintWords Go.Proofs.YtmgfaoomdpgbhaaW.PrintLast Go.Proofs.YtmgfaoomdpgbhaaW.PrintMore
set_option linter.unusedVariables false
set_option linter.unusedSimpArgs false
theorem cw64 {x : Int} (h1 : -9223372036854775808 ≤ x) (h2 : x ≤ 9223372036854775807) : wrap64 x = x := by unfold wrap64; omega
theorem cevn {α : Type} {g : Nat → Option α} {r : α} (h : ∀ k, g k = some r) : Ev g r := ⟨0, fun k _ => h k⟩
theorem cevb {α β : Type} {g : Nat → Option α} {f : α → Nat → Option β} {a : α} {r : β} (h : Ev g a) (k : Ev (f a) r) : Ev (fun n => (g n).bind (fun x => f x n)) r := by
  obtain ⟨K, hK⟩ := h
  obtain ⟨L, hL⟩ := k
  exact ⟨max K L, fun n hn => by simp only [hK n (by omega), Option.bind_some]; exact hL n (by omega)⟩
theorem ref_leap (y : Int) : octroiref04_Leap.f y = some (leapB y) := by
  rw [← leap_eq]
  unfold octroiref04_Leap.f civil_Leap.f civil_inYears.f
  by_cases h1 : y ≥ 1970
  · rw [if_pos h1, if_pos h1]
    by_cases h2 : y ≤ 9999 <;> simp [h2]
  · rw [if_neg h1, if_neg h1]; rfl
theorem ref_days (y : Int) : octroiref04_days.f y = some (daysV y) := by
  unfold octroiref04_days.f daysV
  rw [ref_leap]
  cases leapB y <;> rfl
def len12 (b : Bool) (m : Int) : Int := if m = 2 then (if b = true then 29 else 28) else if m = 4 then 30 else if m = 6 then 30 else if m = 9 then 30 else if m = 11 then 30 else 31
theorem len12_eq (b : Bool) (k : Nat) (h1 : 1 ≤ k) (h2 : k ≤ 12) : len12 b k = cumV b k - cumV b (k - 1) := by
  have : k = 1 ∨ k = 2 ∨ k = 3 ∨ k = 4 ∨ k = 5 ∨ k = 6 ∨ k = 7 ∨ k = 8 ∨ k = 9 ∨ k = 10 ∨ k = 11 ∨ k = 12 := by omega
  rcases this with h | h | h | h | h | h | h | h | h | h | h | h <;> subst h <;> cases b <;> decide
theorem lenV_in (y : Int) (k : Nat) (hy : inY y = true) (h1 : 1 ≤ k) (h2 : k ≤ 12) : lenV y k = len12 (leapB y) k := by
  unfold lenV
  rw [if_pos ⟨hy, by omega, by omega⟩, len12_eq _ k h1 h2, Int.toNat_natCast]
theorem lenV_12 (y m : Int) (hy : inY y = true) (h1 : 1 ≤ m) (h2 : m ≤ 12) : lenV y m = len12 (leapB y) m := by
  obtain ⟨k, rfl⟩ := Int.eq_ofNat_of_zero_le (show 0 ≤ m by omega)
  exact lenV_in y k hy (by omega) (by omega)
theorem ref_len (y m : Int) : Ev (fun k => octroiref04_Len.f k y m) (lenV y m) := by
  by_cases hy1 : y < 1970
  · have hv : lenV y m = 0 := by unfold lenV; rw [if_neg]; intro h; have := (inY_iff y).1 h.1; omega
    rw [hv]
    refine Ev.congr (g := _) (f := fun k => octroiref04_Len.j0 k y m true) (fun k => by unfold octroiref04_Len.f; rw [if_pos hy1]) ?_
    exact Ev.step (f := fun _ => some 0) (fun k => by simp only [octroiref04_Len.j0]; rw [if_pos trivial]) (Ev.now _)
  · by_cases hy2 : y > 9999
    · have hv : lenV y m = 0 := by unfold lenV; rw [if_neg]; intro h; have := (inY_iff y).1 h.1; omega
      rw [hv]
      refine Ev.congr (g := _) (f := fun k => octroiref04_Len.j0 k y m true) (fun k => by unfold octroiref04_Len.f; rw [if_neg hy1, if_pos hy2]) ?_
      exact Ev.step (f := fun _ => some 0) (fun k => by simp only [octroiref04_Len.j0]; rw [if_pos trivial]) (Ev.now _)
    · by_cases hm1 : m < 1
      · have hv : lenV y m = 0 := by unfold lenV; rw [if_neg]; omega
        rw [hv]
        refine Ev.congr (g := _) (f := fun k => octroiref04_Len.j0 k y m true) (fun k => by unfold octroiref04_Len.f; rw [if_neg hy1, if_neg hy2, if_pos hm1]) ?_
        exact Ev.step (f := fun _ => some 0) (fun k => by simp only [octroiref04_Len.j0]; rw [if_pos trivial]) (Ev.now _)
      · by_cases hm2 : m > 12
        · have hv : lenV y m = 0 := by unfold lenV; rw [if_neg]; omega
          rw [hv]
          refine Ev.congr (g := _) (f := fun k => octroiref04_Len.j0 k y m true) (fun k => by unfold octroiref04_Len.f; rw [if_neg hy1, if_neg hy2, if_neg hm1, decide_eq_true hm2]) ?_
          exact Ev.step (f := fun _ => some 0) (fun k => by simp only [octroiref04_Len.j0]; rw [if_pos trivial]) (Ev.now _)
        · rw [lenV_12 y m ((inY_iff y).2 (by omega)) (by omega) (by omega)]
          refine Ev.congr (g := _) (f := fun k => octroiref04_Len.j0 k y m false) (fun k => by unfold octroiref04_Len.f; rw [if_neg hy1, if_neg hy2, if_neg hm1, decide_eq_false hm2]) ?_
          refine Ev.step (f := fun _ => some (len12 (leapB y) m)) (fun k => ?_) (Ev.now _)
          simp only [octroiref04_Len.j0]
          rw [if_neg (by simp), ref_leap]
          unfold len12
          by_cases h2 : m = 2
          · rw [if_pos h2, if_pos h2]; cases leapB y <;> rfl
          · rw [if_neg h2, if_neg h2]
            by_cases h4 : m = 4
            · rw [if_pos h4, if_pos h4]
            · rw [if_neg h4, if_neg h4]
              by_cases h6 : m = 6
              · rw [if_pos h6, if_pos h6]
              · rw [if_neg h6, if_neg h6]
                by_cases h9 : m = 9
                · rw [if_pos h9, if_pos h9]
                · rw [if_neg h9, if_neg h9]
                  by_cases h11 : m = 11
                  · rw [if_pos h11, if_pos h11]
                  · rw [if_neg h11, if_neg h11]
theorem pro_date (n : Int) : civil_Date.f n = some (dateV n) := rfl
theorem date_l1 (y : Int) (hy : inY y = true) (r : Int) (h0 : 0 ≤ r) (h1 : r < cumV (leapB y) 12) (e : Nat) : ∀ (i : Nat), 1 ≤ i → i + e = monthV (leapB y) r →
    Ev (fun k => octroiref04_Date.l1 k (r - cumV (leapB y) (i - 1)) y (i : Int)) (y, (monthV (leapB y) r : Int), r - cumV (leapB y) (monthV (leapB y) r - 1) + 1, 0) := by
  have ms := month_spec (leapB y) r h0 h1
  have hyy := (inY_iff y).1 hy
  have cb := cum_bd (leapB y) 12
  induction e with
  | zero =>
    intro i hi he
    have he' : i = monthV (leapB y) r := by omega
    rw [← he'] at ms ⊢
    have hl := ref_len y i
    rw [lenV_in y i hy hi ms.2.1, len12_eq _ i hi ms.2.1] at hl
    refine Ev.step (fun k => ?_) (cevb hl (β := Int × Int × Int × Int) (f := fun t k => if r - cumV (leapB y) (i - 1) ≥ t then ((octroiref04_Len.f k y i).bind fun t2 => (octroiref04_Date.l1 k (wrap64 (r - cumV (leapB y) (i - 1) - t2)) y (wrap64 ((i : Int) + 1)))) else (some (y, (i : Int), wrap64 (r - cumV (leapB y) (i - 1) + 1), 0)))
      (cevn (fun k => by have := cum_bd (leapB y) (i - 1); rw [if_neg (by omega), cw64 (by omega) (by omega)])))
    simp only [octroiref04_Date.l1]
  | succ e ih =>
    intro i hi he
    have hle : cumV (leapB y) i ≤ r := by
      have := cum_mono (leapB y) i (monthV (leapB y) r - 1 - i) (by omega)
      rw [show i + (monthV (leapB y) r - 1 - i) = monthV (leapB y) r - 1 by omega] at this
      omega
    have hl := ref_len y i
    have c1 := cum_bd (leapB y) i
    have c2 := cum_bd (leapB y) (i - 1)
    rw [lenV_in y i hy hi (by omega), len12_eq _ i hi (by omega)] at hl
    have := ih (i + 1) (by omega) (by omega)
    rw [show i + 1 - 1 = i by omega] at this
    refine Ev.step (fun k => ?_) (cevb hl (f := fun t k => if r - cumV (leapB y) (i - 1) ≥ t then ((octroiref04_Len.f k y i).bind fun t2 => (octroiref04_Date.l1 k (wrap64 (r - cumV (leapB y) (i - 1) - t2)) y (wrap64 ((i : Int) + 1)))) else (some (y, (i : Int), wrap64 (r - cumV (leapB y) (i - 1) + 1), 0)))
      (Ev.congr (fun k => by rw [if_pos (by omega)]) (cevb hl (f := fun t2 k => octroiref04_Date.l1 k (wrap64 (r - cumV (leapB y) (i - 1) - t2)) y (wrap64 ((i : Int) + 1))) (Ev.congr (fun k => by
        rw [cw64 (x := r - cumV (leapB y) (i - 1) - _) (by omega) (by omega), cw64 (x := (i : Int) + 1) (by omega) (by omega), show r - cumV (leapB y) (i - 1) - (cumV (leapB y) i - cumV (leapB y) (i - 1)) = r - cumV (leapB y) i by omega]
        rfl) this))))
    simp only [octroiref04_Date.l1]
theorem date_l0 (n : Int) (h1 : 0 ≤ n) (h2 : n ≤ 2932896) (e : Nat) : ∀ (i : Int), 1970 ≤ i → i + e = yearV n →
    Ev (fun k => octroiref04_Date.l0 k (n - begV i) i) (dateV n) := by
  have ys := year_spec n h1 h2
  induction e with
  | zero =>
    intro i hi he
    have he' : i = yearV n := by omega
    have hs := beg_succ i hi (by omega)
    have hv : dateV n = (i, (monthV (leapB i) (n - begV i) : Int), n - begV i - cumV (leapB i) (monthV (leapB i) (n - begV i) - 1) + 1, 0) := by
      unfold dateV; rw [if_pos ⟨h1, h2⟩, ← he']
    rw [hv]
    rw [← he'] at ys
    have hyin := (inY_iff i).2 ⟨ys.1, ys.2.1⟩
    have hlast : n - begV i < cumV (leapB i) 12 := by
      rw [cum_last]; unfold daysV at hs; omega
    have ms := month_spec (leapB i) (n - begV i) (by omega) hlast
    have := date_l1 i hyin (n - begV i) (by omega) hlast (monthV (leapB i) (n - begV i) - 1) 1 (by omega) (by omega)
    rw [show 1 - 1 = 0 from rfl, cum_first, Int.sub_zero] at this
    refine Ev.step (fun k => ?_) this
    simp only [octroiref04_Date.l0]
    rw [ref_days]
    simp only [Option.bind_some]
    rw [if_neg (by omega)]; rfl
  | succ e ih =>
    intro i hi he
    have hs := beg_succ i hi (by omega)
    have hb := beg_bd i hi (by omega)
    have hle : begV (i + 1) ≤ n := by
      have := beg_mono (i + 1) e (by omega) (by omega)
      rw [show i + 1 + (e : Int) = yearV n by omega] at this
      omega
    have hdv : 365 ≤ daysV i ∧ daysV i ≤ 366 := by unfold daysV; split <;> omega
    have := ih (i + 1) (by omega) (by omega)
    refine Ev.step (fun k => ?_) this
    simp only [octroiref04_Date.l0]
    rw [ref_days]
    simp only [Option.bind_some]
    rw [if_pos (by omega), cw64 (x := n - begV i - daysV i) (by omega) (by omega), cw64 (x := i + 1) (by omega) (by omega), show n - begV i - daysV i = n - begV (i + 1) by omega]
theorem ref_date (n : Int) : Ev (fun k => octroiref04_Date.f k n) (dateV n) := by
  have hbad : Ev (fun k => octroiref04_Date.j0 k n true) (0, 0, 0, 30) := Ev.step (f := fun _ => some (0, 0, 0, 30)) (fun k => by simp only [octroiref04_Date.j0]; rw [if_pos trivial]) (Ev.now _)
  unfold octroiref04_Date.f
  by_cases h1 : n < 0
  · have hv : dateV n = (0, 0, 0, 30) := by unfold dateV; rw [if_neg (by omega)]
    rw [hv]
    exact Ev.congr (fun k => by rw [if_pos h1]) hbad
  · by_cases h2 : n > 2932896
    · have hv : dateV n = (0, 0, 0, 30) := by unfold dateV; rw [if_neg (by omega)]
      rw [hv]
      exact Ev.congr (fun k => by rw [if_neg h1, decide_eq_true h2]) hbad
    · have ys := year_spec n (by omega) (by omega)
      have := date_l0 n (by omega) (by omega) (yearV n - 1970).toNat 1970 (by omega) (by omega)
      rw [show begV 1970 = 0 by decide +kernel, Int.sub_zero] at this
      refine Ev.congr (f := fun k => octroiref04_Date.j0 k n false) (fun k => by rw [if_neg h1, decide_eq_false h2]) ?_
      exact Ev.step (fun k => by simp only [octroiref04_Date.j0]; rw [if_neg (by simp)]) this
end Go.Proofs.Ytmgfaoomdpgbhaa.Print
namespace Go.Proofs.Ytmgfaoomdpgbhaa.Print
open Go.RowKit Go.Proofs.YtmgfaoomdpgbhaaW.PrintWords Go.Proofs.YtmgfaoomdpgbhaaW.PrintLast Go.Proofs.YtmgfaoomdpgbhaaW.PrintMore
attribute [local go_sem] max2_int min2_int max_two min_two max_three min_three max_four min_four   -- for this text's walks alone
set_option linter.unusedVariables false
set_option linter.unusedSimpArgs false
def civil_many.f (a0 : Int) : Option (Int) := if a0 = 1 then (some 12) else (if a0 = 2 then (some 4) else (if a0 = 3 then (some 1) else (some 0)))
set_option maxHeartbeats 8000000 in
set_option maxRecDepth 100000 in
theorem civil_many.calls (a0 : Int) (r : Int) (w : World) (h : civil_many.f a0 = some r) :
    Calls Try.prog 40 #[.int .i64 a0] w fun e w' => e = .returned (.int .i64 r) ∧ Drawn0 w w' := by
  have H : (if a0 = 1 then (some 12) else (if a0 = 2 then (some 4) else (if a0 = 3 then (some 1) else (some 0)))) = some r := h
  clear h
  by_cases c2 : a0 = 1
  · rw [if_pos c2] at H
    have c2b0 : (a0 == 1) = true := beq_iff_eq.mpr c2
    have c2b1 : (a0 != 1) = false := bne_eq_false_iff_eq.mpr c2
    clear c2
    obtain rfl := Option.some.inj H
    go_enter Try.func40, Try.ntmps40
    go_wp2
    go_ret
    exact ⟨by first | rfl | (simp; done) | (simp [*]; done), by repeat (first | exact Drawn0.refl _ | apply Drawn0.step)⟩
  · rw [if_neg c2] at H
    have c2b0 : (a0 == 1) = false := beq_eq_false_iff_ne.mpr c2
    have c2b1 : (a0 != 1) = true := bne_iff_ne.mpr c2
    by_cases c3 : a0 = 2
    · rw [if_pos c3] at H
      have c3b0 : (a0 == 2) = true := beq_iff_eq.mpr c3
      have c3b1 : (a0 != 2) = false := bne_eq_false_iff_eq.mpr c3
      clear c3
      obtain rfl := Option.some.inj H
      go_enter Try.func40, Try.ntmps40
      go_wp2
      go_ret
      exact ⟨by first | rfl | (simp; done) | (simp [*]; done), by repeat (first | exact Drawn0.refl _ | apply Drawn0.step)⟩
    · rw [if_neg c3] at H
      have c3b0 : (a0 == 2) = false := beq_eq_false_iff_ne.mpr c3
      have c3b1 : (a0 != 2) = true := bne_iff_ne.mpr c3
      by_cases c4 : a0 = 3
      · rw [if_pos c4] at H
        have c4b0 : (a0 == 3) = true := beq_iff_eq.mpr c4
        have c4b1 : (a0 != 3) = false := bne_eq_false_iff_eq.mpr c4
        clear c4
        obtain rfl := Option.some.inj H
        go_enter Try.func40, Try.ntmps40
        go_wp2
        go_ret
        exact ⟨by first | rfl | (simp; done) | (simp [*]; done), by repeat (first | exact Drawn0.refl _ | apply Drawn0.step)⟩
      · rw [if_neg c4] at H
        have c4b0 : (a0 == 3) = false := beq_eq_false_iff_ne.mpr c4
        have c4b1 : (a0 != 3) = true := bne_iff_ne.mpr c4
        obtain rfl := Option.some.inj H
        go_enter Try.func40, Try.ntmps40
        go_wp2
        go_ret
        exact ⟨by first | rfl | (simp; done) | (simp [*]; done), by repeat (first | exact Drawn0.refl _ | apply Drawn0.step)⟩
end Go.Proofs.Ytmgfaoomdpgbhaa.Print
