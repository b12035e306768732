/- Plain laws of periods, one behind the other (civil), over the printed functions. -/
import Derived.Test.YtogmjkmnknaieaaX0
import Derived.Test.YtogmjkmnknaieaaBitsD
import Derived.Test.YtogmjkmnknaieaaCivilA
import Derived.Test.YtogmjkmnknaieaaX2
import Derived.Test.YtogmjkmnknaieaaX4
namespace Go.Proofs.Ytogmjkmnknaieaa.Print
open Go.RowKit Go.Proofs.YtogmjkmnknaieaaW.PrintWords Go.Proofs.YtogmjkmnknaieaaW.PrintLast Go.Proofs.YtogmjkmnknaieaaW.PrintMore
set_option linter.unusedVariables false
set_option linter.unusedSimpArgs false
theorem cw64 {x : Int} (h1 : -9223372036854775808 ≤ x) (h2 : x ≤ 9223372036854775807) : wrap64 x = x := by unfold wrap64; omega
theorem cevn {α : Type} {g : Nat → Option α} {r : α} (h : ∀ k, g k = some r) : Ev g r := ⟨0, fun k _ => h k⟩
theorem cevb {α β : Type} {g : Nat → Option α} {f : α → Nat → Option β} {a : α} {r : β} (h : Ev g a) (k : Ev (f a) r) : Ev (fun n => (g n).bind (fun x => f x n)) r := by
  obtain ⟨K, hK⟩ := h
  obtain ⟨L, hL⟩ := k
  exact ⟨max K L, fun n hn => by simp only [hK n (by omega), Option.bind_some]; exact hL n (by omega)⟩
theorem ref_leap (y : Int) : octroiref04_Leap.f y = some (leapB y) := by
  rw [← leap_eq]
  unfold octroiref04_Leap.f civil_Leap.f civil_inYears.f
  by_cases h1 : y ≥ 1970
  · rw [if_pos h1, if_pos h1]
    by_cases h2 : y ≤ 9999 <;> simp [h2]
  · rw [if_neg h1, if_neg h1]; rfl
theorem ref_days (y : Int) : octroiref04_days.f y = some (daysV y) := by
  unfold octroiref04_days.f daysV
  rw [ref_leap]
  cases leapB y <;> rfl
def len12 (b : Bool) (m : Int) : Int := if m = 2 then (if b = true then 29 else 28) else if m = 4 then 30 else if m = 6 then 30 else if m = 9 then 30 else if m = 11 then 30 else 31
theorem len12_eq (b : Bool) (k : Nat) (h1 : 1 ≤ k) (h2 : k ≤ 12) : len12 b k = cumV b k - cumV b (k - 1) := by
  have : k = 1 ∨ k = 2 ∨ k = 3 ∨ k = 4 ∨ k = 5 ∨ k = 6 ∨ k = 7 ∨ k = 8 ∨ k = 9 ∨ k = 10 ∨ k = 11 ∨ k = 12 := by omega
  rcases this with h | h | h | h | h | h | h | h | h | h | h | h <;> subst h <;> cases b <;> decide
theorem lenV_in (y : Int) (k : Nat) (hy : inY y = true) (h1 : 1 ≤ k) (h2 : k ≤ 12) : lenV y k = len12 (leapB y) k := by
  unfold lenV
  rw [if_pos ⟨hy, by omega, by omega⟩, len12_eq _ k h1 h2, Int.toNat_natCast]
theorem lenV_12 (y m : Int) (hy : inY y = true) (h1 : 1 ≤ m) (h2 : m ≤ 12) : lenV y m = len12 (leapB y) m := by
  obtain ⟨k, rfl⟩ := Int.eq_ofNat_of_zero_le (show 0 ≤ m by omega)
  exact lenV_in y k hy (by omega) (by omega)
theorem ref_len (y m : Int) : Ev (fun k => octroiref04_Len.f k y m) (lenV y m) := by
  by_cases hy1 : y < 1970
  · have hv : lenV y m = 0 := by unfold lenV; rw [if_neg]; intro h; have := (inY_iff y).1 h.1; omega
    rw [hv]
    refine Ev.congr (g := _) (f := fun k => octroiref04_Len.j0 k y m true) (fun k => by unfold octroiref04_Len.f; rw [if_pos hy1]) ?_
    exact Ev.step (f := fun _ => some 0) (fun k => by simp only [octroiref04_Len.j0]; rw [if_pos trivial]) (Ev.now _)
  · by_cases hy2 : y > 9999
    · have hv : lenV y m = 0 := by unfold lenV; rw [if_neg]; intro h; have := (inY_iff y).1 h.1; omega
      rw [hv]
      refine Ev.congr (g := _) (f := fun k => octroiref04_Len.j0 k y m true) (fun k => by unfold octroiref04_Len.f; rw [if_neg hy1, if_pos hy2]) ?_
      exact Ev.step (f := fun _ => some 0) (fun k => by simp only [octroiref04_Len.j0]; rw [if_pos trivial]) (Ev.now _)
    · by_cases hm1 : m < 1
      · have hv : lenV y m = 0 := by unfold lenV; rw [if_neg]; omega
        rw [hv]
        refine Ev.congr (g := _) (f := fun k => octroiref04_Len.j0 k y m true) (fun k => by unfold octroiref04_Len.f; rw [if_neg hy1, if_neg hy2, if_pos hm1]) ?_
        exact Ev.step (f := fun _ => some 0) (fun k => by simp only [octroiref04_Len.j0]; rw [if_pos trivial]) (Ev.now _)
      · by_cases hm2 : m > 12
        · have hv : lenV y m = 0 := by unfold lenV; rw [if_neg]; omega
          rw [hv]
          refine Ev.congr (g := _) (f := fun k => octroiref04_Len.j0 k y m true) (fun k => by unfold octroiref04_Len.f; rw [if_neg hy1, if_neg hy2, if_neg hm1, decide_eq_true hm2]) ?_
          exact Ev.step (f := fun _ => some 0) (fun k => by simp only [octroiref04_Len.j0]; rw [if_pos trivial]) (Ev.now _)
        · rw [lenV_12 y m ((inY_iff y).2 (by omega)) (by omega) (by omega)]
          refine Ev.congr (g := _) (f := fun k => octroiref04_Len.j0 k y m false) (fun k => by unfold octroiref04_Len.f; rw [if_neg hy1, if_neg hy2, if_neg hm1, decide_eq_false hm2]) ?_
          refine Ev.step (f := fun _ => some (len12 (leapB y) m)) (fun k => ?_) (Ev.now _)
          simp only [octroiref04_Len.j0]
          rw [if_neg (by simp), ref_leap]
          unfold len12
          by_cases h2 : m = 2
          · rw [if_pos h2, if_pos h2]; cases leapB y <;> rfl
          · rw [if_neg h2, if_neg h2]
            by_cases h4 : m = 4
            · rw [if_pos h4, if_pos h4]
            · rw [if_neg h4, if_neg h4]
              by_cases h6 : m = 6
              · rw [if_pos h6, if_pos h6]
              · rw [if_neg h6, if_neg h6]
                by_cases h9 : m = 9
                · rw [if_pos h9, if_pos h9]
                · rw [if_neg h9, if_neg h9]
                  by_cases h11 : m = 11
                  · rw [if_pos h11, if_pos h11]
                  · rw [if_neg h11, if_neg h11]
theorem pro_date (n : Int) : civil_Date.f n = some (dateV n) := rfl
theorem date_l1 (y : Int) (hy : inY y = true) (r : Int) (h0 : 0 ≤ r) (h1 : r < cumV (leapB y) 12) (e : Nat) : ∀ (i : Nat), 1 ≤ i → i + e = monthV (leapB y) r →
    Ev (fun k => octroiref04_Date.l1 k (r - cumV (leapB y) (i - 1)) y (i : Int)) (y, (monthV (leapB y) r : Int), r - cumV (leapB y) (monthV (leapB y) r - 1) + 1, 0) := by
  have ms := month_spec (leapB y) r h0 h1
  have hyy := (inY_iff y).1 hy
  have cb := cum_bd (leapB y) 12
  induction e with
  | zero =>
    intro i hi he
    have he' : i = monthV (leapB y) r := by omega
    rw [← he'] at ms ⊢
    have hl := ref_len y i
    rw [lenV_in y i hy hi ms.2.1, len12_eq _ i hi ms.2.1] at hl
    refine Ev.step (fun k => ?_) (cevb hl (β := Int × Int × Int × Int) (f := fun t k => if r - cumV (leapB y) (i - 1) ≥ t then ((octroiref04_Len.f k y i).bind fun t2 => (octroiref04_Date.l1 k (wrap64 (r - cumV (leapB y) (i - 1) - t2)) y (wrap64 ((i : Int) + 1)))) else (some (y, (i : Int), wrap64 (r - cumV (leapB y) (i - 1) + 1), 0)))
      (cevn (fun k => by have := cum_bd (leapB y) (i - 1); rw [if_neg (by omega), cw64 (by omega) (by omega)])))
    simp only [octroiref04_Date.l1]
  | succ e ih =>
    intro i hi he
    have hle : cumV (leapB y) i ≤ r := by
      have := cum_mono (leapB y) i (monthV (leapB y) r - 1 - i) (by omega)
      rw [show i + (monthV (leapB y) r - 1 - i) = monthV (leapB y) r - 1 by omega] at this
      omega
    have hl := ref_len y i
    have c1 := cum_bd (leapB y) i
    have c2 := cum_bd (leapB y) (i - 1)
    rw [lenV_in y i hy hi (by omega), len12_eq _ i hi (by omega)] at hl
    have := ih (i + 1) (by omega) (by omega)
    rw [show i + 1 - 1 = i by omega] at this
    refine Ev.step (fun k => ?_) (cevb hl (f := fun t k => if r - cumV (leapB y) (i - 1) ≥ t then ((octroiref04_Len.f k y i).bind fun t2 => (octroiref04_Date.l1 k (wrap64 (r - cumV (leapB y) (i - 1) - t2)) y (wrap64 ((i : Int) + 1)))) else (some (y, (i : Int), wrap64 (r - cumV (leapB y) (i - 1) + 1), 0)))
      (Ev.congr (fun k => by rw [if_pos (by omega)]) (cevb hl (f := fun t2 k => octroiref04_Date.l1 k (wrap64 (r - cumV (leapB y) (i - 1) - t2)) y (wrap64 ((i : Int) + 1))) (Ev.congr (fun k => by
        rw [cw64 (x := r - cumV (leapB y) (i - 1) - _) (by omega) (by omega), cw64 (x := (i : Int) + 1) (by omega) (by omega), show r - cumV (leapB y) (i - 1) - (cumV (leapB y) i - cumV (leapB y) (i - 1)) = r - cumV (leapB y) i by omega]
        rfl) this))))
    simp only [octroiref04_Date.l1]
theorem date_l0 (n : Int) (h1 : 0 ≤ n) (h2 : n ≤ 2932896) (e : Nat) : ∀ (i : Int), 1970 ≤ i → i + e = yearV n →
    Ev (fun k => octroiref04_Date.l0 k (n - begV i) i) (dateV n) := by
  have ys := year_spec n h1 h2
  induction e with
  | zero =>
    intro i hi he
    have he' : i = yearV n := by omega
    have hs := beg_succ i hi (by omega)
    have hv : dateV n = (i, (monthV (leapB i) (n - begV i) : Int), n - begV i - cumV (leapB i) (monthV (leapB i) (n - begV i) - 1) + 1, 0) := by
      unfold dateV; rw [if_pos ⟨h1, h2⟩, ← he']
    rw [hv]
    rw [← he'] at ys
    have hyin := (inY_iff i).2 ⟨ys.1, ys.2.1⟩
    have hlast : n - begV i < cumV (leapB i) 12 := by
      rw [cum_last]; unfold daysV at hs; omega
    have ms := month_spec (leapB i) (n - begV i) (by omega) hlast
    have := date_l1 i hyin (n - begV i) (by omega) hlast (monthV (leapB i) (n - begV i) - 1) 1 (by omega) (by omega)
    rw [show 1 - 1 = 0 from rfl, cum_first, Int.sub_zero] at this
    refine Ev.step (fun k => ?_) this
    simp only [octroiref04_Date.l0]
    rw [ref_days]
    simp only [Option.bind_some]
    rw [if_neg (by omega)]; rfl
  | succ e ih =>
    intro i hi he
    have hs := beg_succ i hi (by omega)
    have hb := beg_bd i hi (by omega)
    have hle : begV (i + 1) ≤ n := by
      have := beg_mono (i + 1) e (by omega) (by omega)
      rw [show i + 1 + (e : Int) = yearV n by omega] at this
      omega
    have hdv : 365 ≤ daysV i ∧ daysV i ≤ 366 := by unfold daysV; split <;> omega
    have := ih (i + 1) (by omega) (by omega)
    refine Ev.step (fun k => ?_) this
    simp only [octroiref04_Date.l0]
    rw [ref_days]
    simp only [Option.bind_some]
    rw [if_pos (by omega), cw64 (x := n - begV i - daysV i) (by omega) (by omega), cw64 (x := i + 1) (by omega) (by omega), show n - begV i - daysV i = n - begV (i + 1) by omega]
theorem ref_date (n : Int) : Ev (fun k => octroiref04_Date.f k n) (dateV n) := by
  have hbad : Ev (fun k => octroiref04_Date.j0 k n true) (0, 0, 0, 30) := Ev.step (f := fun _ => some (0, 0, 0, 30)) (fun k => by simp only [octroiref04_Date.j0]; rw [if_pos trivial]) (Ev.now _)
  unfold octroiref04_Date.f
  by_cases h1 : n < 0
  · have hv : dateV n = (0, 0, 0, 30) := by unfold dateV; rw [if_neg (by omega)]
    rw [hv]
    exact Ev.congr (fun k => by rw [if_pos h1]) hbad
  · by_cases h2 : n > 2932896
    · have hv : dateV n = (0, 0, 0, 30) := by unfold dateV; rw [if_neg (by omega)]
      rw [hv]
      exact Ev.congr (fun k => by rw [if_neg h1, decide_eq_true h2]) hbad
    · have ys := year_spec n (by omega) (by omega)
      have := date_l0 n (by omega) (by omega) (yearV n - 1970).toNat 1970 (by omega) (by omega)
      rw [show begV 1970 = 0 by decide +kernel, Int.sub_zero] at this
      refine Ev.congr (f := fun k => octroiref04_Date.j0 k n false) (fun k => by rw [if_neg h1, decide_eq_false h2]) ?_
      exact Ev.step (fun k => by simp only [octroiref04_Date.j0]; rw [if_neg (by simp)]) this
end Go.Proofs.Ytogmjkmnknaieaa.Print
namespace Go.Proofs.Ytogmjkmnknaieaa.Print
open Go.RowKit Go.Proofs.YtogmjkmnknaieaaW.PrintWords Go.Proofs.YtogmjkmnknaieaaW.PrintLast Go.Proofs.YtogmjkmnknaieaaW.PrintMore
attribute [local go_sem] max2_int min2_int max_two min_two max_three min_three max_four min_four   -- for this text's walks alone
set_option linter.unusedVariables false
set_option linter.unusedSimpArgs false
def octroiref04_Good.f (a0_0 : Int) (a0_1 : Int) (a0_2 : Int) : Option (Bool) := if a0_1 ≥ 1970 then (if a0_1 ≤ 9999 then (if a0_2 ≥ 1 then ((octroiref04_Many.f a0_0).bind fun t263 => (some (decide (a0_2 ≤ t263)))) else (some false)) else (some false)) else (some false)
set_option maxHeartbeats 8000000 in
set_option maxRecDepth 100000 in
theorem octroiref04_Good.calls (a0_0 : Int) (a0_1 : Int) (a0_2 : Int) (r : Bool) (w : World) (h : octroiref04_Good.f a0_0 a0_1 a0_2 = some r) :
    Calls Try.prog 28 #[.agg #[.int .i64 a0_0, .int .i64 a0_1, .int .i64 a0_2]] w fun e w' => e = .returned (.bool r) ∧ Below w.heap.size w w' := by
  have hu27 := Try.underlying27
  have HB := Aside0.mk (Below.refl w.heap.size w)
  have H : (if a0_1 ≥ 1970 then (if a0_1 ≤ 9999 then (if a0_2 ≥ 1 then ((octroiref04_Many.f a0_0).bind fun t263 => (some (decide (a0_2 ≤ t263)))) else (some false)) else (some false)) else (some false)) = some r := h
  clear h
  by_cases c2 : a0_1 ≥ 1970
  · rw [if_pos c2] at H
    have c2b0 : decide (1970 ≤ a0_1) = true := decide_eq_true c2
    clear c2
    by_cases c3 : a0_1 ≤ 9999
    · rw [if_pos c3] at H
      have c3b0 : decide (a0_1 ≤ 9999) = true := decide_eq_true c3
      clear c3
      by_cases c4 : a0_2 ≥ 1
      · rw [if_pos c4] at H
        have c4b0 : decide (1 ≤ a0_2) = true := decide_eq_true c4
        clear c4
        replace H := Option.bind_eq_some_iff.mp H
        obtain ⟨t263, A50, H⟩ := H
        replace H : (some (decide (a0_2 ≤ t263))) = some r := H
        have A5 := Aside0.mk A50
        clear A50
        obtain rfl := Option.some.inj H
        go_enter Try.func28, Try.ntmps28
        go_wp2_with (first | ((with_reducible refine gate_dst (N := 1) rfl ?_); refine box_event ?hg (N := 1) ?hd (cs := #[.int .i64 a0_0, .int .i64 a0_1, .int .i64 a0_2]) (t := 27) ?hr ?_; (case hd => rfl); (case hg => rfl); (case hr => first | (go_simp; done) | (go_simp; rfl)); intro gb262 hg w6 hbox hb; have n0_ := Aside0.mk (below_step (by repeat (first | (with_reducible first | exact HB.out | apply below_alloc | apply pw_below_drewN | apply below_drew1) | exact HB.out)) hb); have n1_ := Aside0.mk (hbox); have n2_ := Aside0.mk ((by rw [hg]; exact (below_size (by repeat (first | (with_reducible first | exact HB.out | apply below_alloc | apply pw_below_drewN | apply below_drew1) | exact HB.out))) : w.heap.size ≤ gb262)); have n3_ := Aside0.mk ((by rw [hg]; exact (below_size (by repeat (first | (with_reducible first | exact HB.out | apply below_alloc | apply pw_below_drewN | apply below_drew1) | exact HB.out))) : w.heap.size ≤ gb262)); clear HB; have HB := n0_; have BK262 := n1_; have GW262 := n2_; have GE262 := n3_; clear n0_ n1_ n2_ n3_; clear hb hbox hg; have hcz7_0 : w6.cell? ⟨gb262, 0, none⟩ = some (.int .i64 a0_0) := (blk_cell BK262.out 0).trans rfl; have hcz7_1 : w6.cell? ⟨gb262, 1, none⟩ = some (.int .i64 a0_1) := (blk_cell BK262.out 1).trans rfl; have hcz7_2 : w6.cell? ⟨gb262, 2, none⟩ = some (.int .i64 a0_2) := (blk_cell BK262.out 2).trans rfl; have hfz7_0 := blk_frozen BK262.out 0; have hfz7_1 := blk_frozen BK262.out 1; have hfz7_2 := blk_frozen BK262.out 2) | (go_at_call 40; (with_reducible refine (octroiref04_Many.calls a0_0 t263 _ A5.out).mono ?_); rintro e w' ⟨rfl, ⟨nd, rfl⟩⟩; (try first | exact ⟨rfl, _, World.drewN_drewN _ _ _⟩ | exact ⟨rfl, _, Eq.trans (World.drewN_drewN _ _ _) (congrArg (World.drewN _) (Nat.add_assoc _ _ _))⟩)))
        repeat (go_quiet (first | ((with_reducible refine gate_dst (N := 1) rfl ?_); refine box_event ?hg (N := 1) ?hd (cs := #[.int .i64 a0_0, .int .i64 a0_1, .int .i64 a0_2]) (t := 27) ?hr ?_; (case hd => rfl); (case hg => rfl); (case hr => first | (go_simp; done) | (go_simp; rfl)); intro gb262 hg w6 hbox hb; have n0_ := Aside0.mk (below_step (by repeat (first | (with_reducible first | exact HB.out | apply below_alloc | apply pw_below_drewN | apply below_drew1) | exact HB.out)) hb); have n1_ := Aside0.mk (hbox); have n2_ := Aside0.mk ((by rw [hg]; exact (below_size (by repeat (first | (with_reducible first | exact HB.out | apply below_alloc | apply pw_below_drewN | apply below_drew1) | exact HB.out))) : w.heap.size ≤ gb262)); have n3_ := Aside0.mk ((by rw [hg]; exact (below_size (by repeat (first | (with_reducible first | exact HB.out | apply below_alloc | apply pw_below_drewN | apply below_drew1) | exact HB.out))) : w.heap.size ≤ gb262)); clear HB; have HB := n0_; have BK262 := n1_; have GW262 := n2_; have GE262 := n3_; clear n0_ n1_ n2_ n3_; clear hb hbox hg; have hcz7_0 : w6.cell? ⟨gb262, 0, none⟩ = some (.int .i64 a0_0) := (blk_cell BK262.out 0).trans rfl; have hcz7_1 : w6.cell? ⟨gb262, 1, none⟩ = some (.int .i64 a0_1) := (blk_cell BK262.out 1).trans rfl; have hcz7_2 : w6.cell? ⟨gb262, 2, none⟩ = some (.int .i64 a0_2) := (blk_cell BK262.out 2).trans rfl; have hfz7_0 := blk_frozen BK262.out 0; have hfz7_1 := blk_frozen BK262.out 1; have hfz7_2 := blk_frozen BK262.out 2) | (go_at_call 40; (with_reducible refine (octroiref04_Many.calls a0_0 t263 _ A5.out).mono ?_); rintro e w' ⟨rfl, ⟨nd, rfl⟩⟩; (try first | exact ⟨rfl, _, World.drewN_drewN _ _ _⟩ | exact ⟨rfl, _, Eq.trans (World.drewN_drewN _ _ _) (congrArg (World.drewN _) (Nat.add_assoc _ _ _))⟩))); try go_wp2_with (first | ((with_reducible refine gate_dst (N := 1) rfl ?_); refine box_event ?hg (N := 1) ?hd (cs := #[.int .i64 a0_0, .int .i64 a0_1, .int .i64 a0_2]) (t := 27) ?hr ?_; (case hd => rfl); (case hg => rfl); (case hr => first | (go_simp; done) | (go_simp; rfl)); intro gb262 hg w6 hbox hb; have n0_ := Aside0.mk (below_step (by repeat (first | (with_reducible first | exact HB.out | apply below_alloc | apply pw_below_drewN | apply below_drew1) | exact HB.out)) hb); have n1_ := Aside0.mk (hbox); have n2_ := Aside0.mk ((by rw [hg]; exact (below_size (by repeat (first | (with_reducible first | exact HB.out | apply below_alloc | apply pw_below_drewN | apply below_drew1) | exact HB.out))) : w.heap.size ≤ gb262)); have n3_ := Aside0.mk ((by rw [hg]; exact (below_size (by repeat (first | (with_reducible first | exact HB.out | apply below_alloc | apply pw_below_drewN | apply below_drew1) | exact HB.out))) : w.heap.size ≤ gb262)); clear HB; have HB := n0_; have BK262 := n1_; have GW262 := n2_; have GE262 := n3_; clear n0_ n1_ n2_ n3_; clear hb hbox hg; have hcz7_0 : w6.cell? ⟨gb262, 0, none⟩ = some (.int .i64 a0_0) := (blk_cell BK262.out 0).trans rfl; have hcz7_1 : w6.cell? ⟨gb262, 1, none⟩ = some (.int .i64 a0_1) := (blk_cell BK262.out 1).trans rfl; have hcz7_2 : w6.cell? ⟨gb262, 2, none⟩ = some (.int .i64 a0_2) := (blk_cell BK262.out 2).trans rfl; have hfz7_0 := blk_frozen BK262.out 0; have hfz7_1 := blk_frozen BK262.out 1; have hfz7_2 := blk_frozen BK262.out 2) | (go_at_call 40; (with_reducible refine (octroiref04_Many.calls a0_0 t263 _ A5.out).mono ?_); rintro e w' ⟨rfl, ⟨nd, rfl⟩⟩; (try first | exact ⟨rfl, _, World.drewN_drewN _ _ _⟩ | exact ⟨rfl, _, Eq.trans (World.drewN_drewN _ _ _) (congrArg (World.drewN _) (Nat.add_assoc _ _ _))⟩))))
        go_ret
        exact ⟨by first | rfl | (simp [errW_none, errW_some] <;> rfl) | (simp [*, errW_none, errW_some] <;> rfl), by repeat (first | (with_reducible first | exact HB.out | apply below_alloc | apply pw_below_drewN | apply below_drew1 | refine below_set ?_ GE262.out) | exact HB.out)⟩
      · rw [if_neg c4] at H
        have c4b0 : decide (1 ≤ a0_2) = false := decide_eq_false c4
        clear c4
        obtain rfl := Option.some.inj H
        go_enter Try.func28, Try.ntmps28
        go_wp2_with (first | ((with_reducible refine gate_dst (N := 1) rfl ?_); refine box_event ?hg (N := 1) ?hd (cs := #[.int .i64 a0_0, .int .i64 a0_1, .int .i64 a0_2]) (t := 27) ?hr ?_; (case hd => rfl); (case hg => rfl); (case hr => first | (go_simp; done) | (go_simp; rfl)); intro gb262 hg w8 hbox hb; have n0_ := Aside0.mk (below_step (by repeat (first | (with_reducible first | exact HB.out | apply below_alloc | apply pw_below_drewN | apply below_drew1) | exact HB.out)) hb); have n1_ := Aside0.mk (hbox); have n2_ := Aside0.mk ((by rw [hg]; exact (below_size (by repeat (first | (with_reducible first | exact HB.out | apply below_alloc | apply pw_below_drewN | apply below_drew1) | exact HB.out))) : w.heap.size ≤ gb262)); have n3_ := Aside0.mk ((by rw [hg]; exact (below_size (by repeat (first | (with_reducible first | exact HB.out | apply below_alloc | apply pw_below_drewN | apply below_drew1) | exact HB.out))) : w.heap.size ≤ gb262)); clear HB; have HB := n0_; have BK262 := n1_; have GW262 := n2_; have GE262 := n3_; clear n0_ n1_ n2_ n3_; clear hb hbox hg; have hcz9_0 : w8.cell? ⟨gb262, 0, none⟩ = some (.int .i64 a0_0) := (blk_cell BK262.out 0).trans rfl; have hcz9_1 : w8.cell? ⟨gb262, 1, none⟩ = some (.int .i64 a0_1) := (blk_cell BK262.out 1).trans rfl; have hcz9_2 : w8.cell? ⟨gb262, 2, none⟩ = some (.int .i64 a0_2) := (blk_cell BK262.out 2).trans rfl; have hfz9_0 := blk_frozen BK262.out 0; have hfz9_1 := blk_frozen BK262.out 1; have hfz9_2 := blk_frozen BK262.out 2))
        repeat (go_quiet (first | ((with_reducible refine gate_dst (N := 1) rfl ?_); refine box_event ?hg (N := 1) ?hd (cs := #[.int .i64 a0_0, .int .i64 a0_1, .int .i64 a0_2]) (t := 27) ?hr ?_; (case hd => rfl); (case hg => rfl); (case hr => first | (go_simp; done) | (go_simp; rfl)); intro gb262 hg w8 hbox hb; have n0_ := Aside0.mk (below_step (by repeat (first | (with_reducible first | exact HB.out | apply below_alloc | apply pw_below_drewN | apply below_drew1) | exact HB.out)) hb); have n1_ := Aside0.mk (hbox); have n2_ := Aside0.mk ((by rw [hg]; exact (below_size (by repeat (first | (with_reducible first | exact HB.out | apply below_alloc | apply pw_below_drewN | apply below_drew1) | exact HB.out))) : w.heap.size ≤ gb262)); have n3_ := Aside0.mk ((by rw [hg]; exact (below_size (by repeat (first | (with_reducible first | exact HB.out | apply below_alloc | apply pw_below_drewN | apply below_drew1) | exact HB.out))) : w.heap.size ≤ gb262)); clear HB; have HB := n0_; have BK262 := n1_; have GW262 := n2_; have GE262 := n3_; clear n0_ n1_ n2_ n3_; clear hb hbox hg; have hcz9_0 : w8.cell? ⟨gb262, 0, none⟩ = some (.int .i64 a0_0) := (blk_cell BK262.out 0).trans rfl; have hcz9_1 : w8.cell? ⟨gb262, 1, none⟩ = some (.int .i64 a0_1) := (blk_cell BK262.out 1).trans rfl; have hcz9_2 : w8.cell? ⟨gb262, 2, none⟩ = some (.int .i64 a0_2) := (blk_cell BK262.out 2).trans rfl; have hfz9_0 := blk_frozen BK262.out 0; have hfz9_1 := blk_frozen BK262.out 1; have hfz9_2 := blk_frozen BK262.out 2)); try go_wp2_with (first | ((with_reducible refine gate_dst (N := 1) rfl ?_); refine box_event ?hg (N := 1) ?hd (cs := #[.int .i64 a0_0, .int .i64 a0_1, .int .i64 a0_2]) (t := 27) ?hr ?_; (case hd => rfl); (case hg => rfl); (case hr => first | (go_simp; done) | (go_simp; rfl)); intro gb262 hg w8 hbox hb; have n0_ := Aside0.mk (below_step (by repeat (first | (with_reducible first | exact HB.out | apply below_alloc | apply pw_below_drewN | apply below_drew1) | exact HB.out)) hb); have n1_ := Aside0.mk (hbox); have n2_ := Aside0.mk ((by rw [hg]; exact (below_size (by repeat (first | (with_reducible first | exact HB.out | apply below_alloc | apply pw_below_drewN | apply below_drew1) | exact HB.out))) : w.heap.size ≤ gb262)); have n3_ := Aside0.mk ((by rw [hg]; exact (below_size (by repeat (first | (with_reducible first | exact HB.out | apply below_alloc | apply pw_below_drewN | apply below_drew1) | exact HB.out))) : w.heap.size ≤ gb262)); clear HB; have HB := n0_; have BK262 := n1_; have GW262 := n2_; have GE262 := n3_; clear n0_ n1_ n2_ n3_; clear hb hbox hg; have hcz9_0 : w8.cell? ⟨gb262, 0, none⟩ = some (.int .i64 a0_0) := (blk_cell BK262.out 0).trans rfl; have hcz9_1 : w8.cell? ⟨gb262, 1, none⟩ = some (.int .i64 a0_1) := (blk_cell BK262.out 1).trans rfl; have hcz9_2 : w8.cell? ⟨gb262, 2, none⟩ = some (.int .i64 a0_2) := (blk_cell BK262.out 2).trans rfl; have hfz9_0 := blk_frozen BK262.out 0; have hfz9_1 := blk_frozen BK262.out 1; have hfz9_2 := blk_frozen BK262.out 2)))
        go_ret
        exact ⟨by first | rfl | (simp [errW_none, errW_some] <;> rfl) | (simp [*, errW_none, errW_some] <;> rfl), by repeat (first | (with_reducible first | exact HB.out | apply below_alloc | apply pw_below_drewN | apply below_drew1 | refine below_set ?_ GE262.out) | exact HB.out)⟩
    · rw [if_neg c3] at H
      have c3b0 : decide (a0_1 ≤ 9999) = false := decide_eq_false c3
      clear c3
      obtain rfl := Option.some.inj H
      go_enter Try.func28, Try.ntmps28
      go_wp2_with (first | ((with_reducible refine gate_dst (N := 1) rfl ?_); refine box_event ?hg (N := 1) ?hd (cs := #[.int .i64 a0_0, .int .i64 a0_1, .int .i64 a0_2]) (t := 27) ?hr ?_; (case hd => rfl); (case hg => rfl); (case hr => first | (go_simp; done) | (go_simp; rfl)); intro gb262 hg w10 hbox hb; have n0_ := Aside0.mk (below_step (by repeat (first | (with_reducible first | exact HB.out | apply below_alloc | apply pw_below_drewN | apply below_drew1) | exact HB.out)) hb); have n1_ := Aside0.mk (hbox); have n2_ := Aside0.mk ((by rw [hg]; exact (below_size (by repeat (first | (with_reducible first | exact HB.out | apply below_alloc | apply pw_below_drewN | apply below_drew1) | exact HB.out))) : w.heap.size ≤ gb262)); have n3_ := Aside0.mk ((by rw [hg]; exact (below_size (by repeat (first | (with_reducible first | exact HB.out | apply below_alloc | apply pw_below_drewN | apply below_drew1) | exact HB.out))) : w.heap.size ≤ gb262)); clear HB; have HB := n0_; have BK262 := n1_; have GW262 := n2_; have GE262 := n3_; clear n0_ n1_ n2_ n3_; clear hb hbox hg; have hcz11_0 : w10.cell? ⟨gb262, 0, none⟩ = some (.int .i64 a0_0) := (blk_cell BK262.out 0).trans rfl; have hcz11_1 : w10.cell? ⟨gb262, 1, none⟩ = some (.int .i64 a0_1) := (blk_cell BK262.out 1).trans rfl; have hcz11_2 : w10.cell? ⟨gb262, 2, none⟩ = some (.int .i64 a0_2) := (blk_cell BK262.out 2).trans rfl; have hfz11_0 := blk_frozen BK262.out 0; have hfz11_1 := blk_frozen BK262.out 1; have hfz11_2 := blk_frozen BK262.out 2))
      repeat (go_quiet (first | ((with_reducible refine gate_dst (N := 1) rfl ?_); refine box_event ?hg (N := 1) ?hd (cs := #[.int .i64 a0_0, .int .i64 a0_1, .int .i64 a0_2]) (t := 27) ?hr ?_; (case hd => rfl); (case hg => rfl); (case hr => first | (go_simp; done) | (go_simp; rfl)); intro gb262 hg w10 hbox hb; have n0_ := Aside0.mk (below_step (by repeat (first | (with_reducible first | exact HB.out | apply below_alloc | apply pw_below_drewN | apply below_drew1) | exact HB.out)) hb); have n1_ := Aside0.mk (hbox); have n2_ := Aside0.mk ((by rw [hg]; exact (below_size (by repeat (first | (with_reducible first | exact HB.out | apply below_alloc | apply pw_below_drewN | apply below_drew1) | exact HB.out))) : w.heap.size ≤ gb262)); have n3_ := Aside0.mk ((by rw [hg]; exact (below_size (by repeat (first | (with_reducible first | exact HB.out | apply below_alloc | apply pw_below_drewN | apply below_drew1) | exact HB.out))) : w.heap.size ≤ gb262)); clear HB; have HB := n0_; have BK262 := n1_; have GW262 := n2_; have GE262 := n3_; clear n0_ n1_ n2_ n3_; clear hb hbox hg; have hcz11_0 : w10.cell? ⟨gb262, 0, none⟩ = some (.int .i64 a0_0) := (blk_cell BK262.out 0).trans rfl; have hcz11_1 : w10.cell? ⟨gb262, 1, none⟩ = some (.int .i64 a0_1) := (blk_cell BK262.out 1).trans rfl; have hcz11_2 : w10.cell? ⟨gb262, 2, none⟩ = some (.int .i64 a0_2) := (blk_cell BK262.out 2).trans rfl; have hfz11_0 := blk_frozen BK262.out 0; have hfz11_1 := blk_frozen BK262.out 1; have hfz11_2 := blk_frozen BK262.out 2)); try go_wp2_with (first | ((with_reducible refine gate_dst (N := 1) rfl ?_); refine box_event ?hg (N := 1) ?hd (cs := #[.int .i64 a0_0, .int .i64 a0_1, .int .i64 a0_2]) (t := 27) ?hr ?_; (case hd => rfl); (case hg => rfl); (case hr => first | (go_simp; done) | (go_simp; rfl)); intro gb262 hg w10 hbox hb; have n0_ := Aside0.mk (below_step (by repeat (first | (with_reducible first | exact HB.out | apply below_alloc | apply pw_below_drewN | apply below_drew1) | exact HB.out)) hb); have n1_ := Aside0.mk (hbox); have n2_ := Aside0.mk ((by rw [hg]; exact (below_size (by repeat (first | (with_reducible first | exact HB.out | apply below_alloc | apply pw_below_drewN | apply below_drew1) | exact HB.out))) : w.heap.size ≤ gb262)); have n3_ := Aside0.mk ((by rw [hg]; exact (below_size (by repeat (first | (with_reducible first | exact HB.out | apply below_alloc | apply pw_below_drewN | apply below_drew1) | exact HB.out))) : w.heap.size ≤ gb262)); clear HB; have HB := n0_; have BK262 := n1_; have GW262 := n2_; have GE262 := n3_; clear n0_ n1_ n2_ n3_; clear hb hbox hg; have hcz11_0 : w10.cell? ⟨gb262, 0, none⟩ = some (.int .i64 a0_0) := (blk_cell BK262.out 0).trans rfl; have hcz11_1 : w10.cell? ⟨gb262, 1, none⟩ = some (.int .i64 a0_1) := (blk_cell BK262.out 1).trans rfl; have hcz11_2 : w10.cell? ⟨gb262, 2, none⟩ = some (.int .i64 a0_2) := (blk_cell BK262.out 2).trans rfl; have hfz11_0 := blk_frozen BK262.out 0; have hfz11_1 := blk_frozen BK262.out 1; have hfz11_2 := blk_frozen BK262.out 2)))
      go_ret
      exact ⟨by first | rfl | (simp [errW_none, errW_some] <;> rfl) | (simp [*, errW_none, errW_some] <;> rfl), by repeat (first | (with_reducible first | exact HB.out | apply below_alloc | apply pw_below_drewN | apply below_drew1 | refine below_set ?_ GE262.out) | exact HB.out)⟩
  · rw [if_neg c2] at H
    have c2b0 : decide (1970 ≤ a0_1) = false := decide_eq_false c2
    clear c2
    obtain rfl := Option.some.inj H
    go_enter Try.func28, Try.ntmps28
    go_wp2_with (first | ((with_reducible refine gate_dst (N := 1) rfl ?_); refine box_event ?hg (N := 1) ?hd (cs := #[.int .i64 a0_0, .int .i64 a0_1, .int .i64 a0_2]) (t := 27) ?hr ?_; (case hd => rfl); (case hg => rfl); (case hr => first | (go_simp; done) | (go_simp; rfl)); intro gb262 hg w12 hbox hb; have n0_ := Aside0.mk (below_step (by repeat (first | (with_reducible first | exact HB.out | apply below_alloc | apply pw_below_drewN | apply below_drew1) | exact HB.out)) hb); have n1_ := Aside0.mk (hbox); have n2_ := Aside0.mk ((by rw [hg]; exact (below_size (by repeat (first | (with_reducible first | exact HB.out | apply below_alloc | apply pw_below_drewN | apply below_drew1) | exact HB.out))) : w.heap.size ≤ gb262)); have n3_ := Aside0.mk ((by rw [hg]; exact (below_size (by repeat (first | (with_reducible first | exact HB.out | apply below_alloc | apply pw_below_drewN | apply below_drew1) | exact HB.out))) : w.heap.size ≤ gb262)); clear HB; have HB := n0_; have BK262 := n1_; have GW262 := n2_; have GE262 := n3_; clear n0_ n1_ n2_ n3_; clear hb hbox hg; have hcz13_0 : w12.cell? ⟨gb262, 0, none⟩ = some (.int .i64 a0_0) := (blk_cell BK262.out 0).trans rfl; have hcz13_1 : w12.cell? ⟨gb262, 1, none⟩ = some (.int .i64 a0_1) := (blk_cell BK262.out 1).trans rfl; have hcz13_2 : w12.cell? ⟨gb262, 2, none⟩ = some (.int .i64 a0_2) := (blk_cell BK262.out 2).trans rfl; have hfz13_0 := blk_frozen BK262.out 0; have hfz13_1 := blk_frozen BK262.out 1; have hfz13_2 := blk_frozen BK262.out 2))
    repeat (go_quiet (first | ((with_reducible refine gate_dst (N := 1) rfl ?_); refine box_event ?hg (N := 1) ?hd (cs := #[.int .i64 a0_0, .int .i64 a0_1, .int .i64 a0_2]) (t := 27) ?hr ?_; (case hd => rfl); (case hg => rfl); (case hr => first | (go_simp; done) | (go_simp; rfl)); intro gb262 hg w12 hbox hb; have n0_ := Aside0.mk (below_step (by repeat (first | (with_reducible first | exact HB.out | apply below_alloc | apply pw_below_drewN | apply below_drew1) | exact HB.out)) hb); have n1_ := Aside0.mk (hbox); have n2_ := Aside0.mk ((by rw [hg]; exact (below_size (by repeat (first | (with_reducible first | exact HB.out | apply below_alloc | apply pw_below_drewN | apply below_drew1) | exact HB.out))) : w.heap.size ≤ gb262)); have n3_ := Aside0.mk ((by rw [hg]; exact (below_size (by repeat (first | (with_reducible first | exact HB.out | apply below_alloc | apply pw_below_drewN | apply below_drew1) | exact HB.out))) : w.heap.size ≤ gb262)); clear HB; have HB := n0_; have BK262 := n1_; have GW262 := n2_; have GE262 := n3_; clear n0_ n1_ n2_ n3_; clear hb hbox hg; have hcz13_0 : w12.cell? ⟨gb262, 0, none⟩ = some (.int .i64 a0_0) := (blk_cell BK262.out 0).trans rfl; have hcz13_1 : w12.cell? ⟨gb262, 1, none⟩ = some (.int .i64 a0_1) := (blk_cell BK262.out 1).trans rfl; have hcz13_2 : w12.cell? ⟨gb262, 2, none⟩ = some (.int .i64 a0_2) := (blk_cell BK262.out 2).trans rfl; have hfz13_0 := blk_frozen BK262.out 0; have hfz13_1 := blk_frozen BK262.out 1; have hfz13_2 := blk_frozen BK262.out 2)); try go_wp2_with (first | ((with_reducible refine gate_dst (N := 1) rfl ?_); refine box_event ?hg (N := 1) ?hd (cs := #[.int .i64 a0_0, .int .i64 a0_1, .int .i64 a0_2]) (t := 27) ?hr ?_; (case hd => rfl); (case hg => rfl); (case hr => first | (go_simp; done) | (go_simp; rfl)); intro gb262 hg w12 hbox hb; have n0_ := Aside0.mk (below_step (by repeat (first | (with_reducible first | exact HB.out | apply below_alloc | apply pw_below_drewN | apply below_drew1) | exact HB.out)) hb); have n1_ := Aside0.mk (hbox); have n2_ := Aside0.mk ((by rw [hg]; exact (below_size (by repeat (first | (with_reducible first | exact HB.out | apply below_alloc | apply pw_below_drewN | apply below_drew1) | exact HB.out))) : w.heap.size ≤ gb262)); have n3_ := Aside0.mk ((by rw [hg]; exact (below_size (by repeat (first | (with_reducible first | exact HB.out | apply below_alloc | apply pw_below_drewN | apply below_drew1) | exact HB.out))) : w.heap.size ≤ gb262)); clear HB; have HB := n0_; have BK262 := n1_; have GW262 := n2_; have GE262 := n3_; clear n0_ n1_ n2_ n3_; clear hb hbox hg; have hcz13_0 : w12.cell? ⟨gb262, 0, none⟩ = some (.int .i64 a0_0) := (blk_cell BK262.out 0).trans rfl; have hcz13_1 : w12.cell? ⟨gb262, 1, none⟩ = some (.int .i64 a0_1) := (blk_cell BK262.out 1).trans rfl; have hcz13_2 : w12.cell? ⟨gb262, 2, none⟩ = some (.int .i64 a0_2) := (blk_cell BK262.out 2).trans rfl; have hfz13_0 := blk_frozen BK262.out 0; have hfz13_1 := blk_frozen BK262.out 1; have hfz13_2 := blk_frozen BK262.out 2)))
    go_ret
    exact ⟨by first | rfl | (simp [errW_none, errW_some] <;> rfl) | (simp [*, errW_none, errW_some] <;> rfl), by repeat (first | (with_reducible first | exact HB.out | apply below_alloc | apply pw_below_drewN | apply below_drew1 | refine below_set ?_ GE262.out) | exact HB.out)⟩
end Go.Proofs.Ytogmjkmnknaieaa.Print
namespace Go.Proofs.Ytogmjkmnknaieaa.Print
open Go.RowKit Go.Proofs.YtogmjkmnknaieaaW.PrintWords Go.Proofs.YtogmjkmnknaieaaW.PrintLast Go.Proofs.YtogmjkmnknaieaaW.PrintMore
set_option linter.unusedVariables false
set_option linter.unusedSimpArgs false
def manyV (kd : Int) : Int := if kd = 1 then 12 else if kd = 2 then 4 else if kd = 3 then 1 else 0
def eachV (kd : Int) : Int := if kd = 1 then 1 else if kd = 2 then 3 else 12
theorem many_cases (kd : Int) : (kd = 1 ∧ manyV kd = 12 ∧ eachV kd = 1) ∨ (kd = 2 ∧ manyV kd = 4 ∧ eachV kd = 3) ∨ (kd = 3 ∧ manyV kd = 1 ∧ eachV kd = 12) ∨ (kd ≠ 1 ∧ kd ≠ 2 ∧ kd ≠ 3 ∧ manyV kd = 0) := by
  unfold manyV eachV
  by_cases h1 : kd = 1
  · simp [h1]
  · by_cases h2 : kd = 2
    · simp [h2]
    · by_cases h3 : kd = 3
      · simp [h3]
      · simp [h1, h2, h3]
theorem pro_many (kd : Int) : civil_many.f kd = some (manyV kd) := by
  unfold civil_many.f manyV
  by_cases h1 : kd = 1 <;> by_cases h2 : kd = 2 <;> by_cases h3 : kd = 3 <;> simp [h1, h2, h3]
theorem ref_many (kd : Int) : octroiref04_Many.f kd = some (manyV kd) := by
  unfold octroiref04_Many.f manyV
  by_cases h1 : kd = 1 <;> by_cases h2 : kd = 2 <;> by_cases h3 : kd = 3 <;> simp [h1, h2, h3]
def goodB (kd y i : Int) : Bool := inY y && (decide (1 ≤ i) && decide (i ≤ manyV kd))
theorem pro_good (kd y i : Int) : civil_Good.f kd y i = some (goodB kd y i) := by
  unfold civil_Good.f goodB
  rw [inYears_eq, pro_many]
  cases inY y <;> by_cases h : i ≥ 1 <;> simp [h] <;> omega
theorem ref_good (kd y i : Int) : octroiref04_Good.f kd y i = some (goodB kd y i) := by
  unfold octroiref04_Good.f goodB inY
  rw [ref_many]
  by_cases h1 : y ≥ 1970 <;> by_cases h2 : y ≤ 9999 <;> by_cases h : i ≥ 1 <;> simp [h, h1, h2] <;> omega
theorem each_bd (kd : Int) : 1 ≤ eachV kd ∧ eachV kd ≤ 12 := by unfold eachV; split <;> (try split) <;> omega
theorem each_tdiv (kd : Int) (h : manyV kd ≠ 0) : wrap64 (Int.tdiv 12 (manyV kd)) = eachV kd := by
  rcases many_cases kd with ⟨_, h2, h3⟩ | ⟨_, h2, h3⟩ | ⟨_, h2, h3⟩ | ⟨_, _, _, h2⟩
  · rw [h2, h3]; decide +kernel
  · rw [h2, h3]; decide +kernel
  · rw [h2, h3]; decide +kernel
  · exact absurd h2 h
end Go.Proofs.Ytogmjkmnknaieaa.Print
namespace Go.Proofs.Ytogmjkmnknaieaa.Print
open Go.RowKit Go.Proofs.YtogmjkmnknaieaaW.PrintWords Go.Proofs.YtogmjkmnknaieaaW.PrintLast Go.Proofs.YtogmjkmnknaieaaW.PrintMore
attribute [local go_sem] max2_int min2_int max_two min_two max_three min_three max_four min_four   -- for this text's walks alone
set_option linter.unusedVariables false
set_option linter.unusedSimpArgs false
def civil_Of.f (a0 : Int) (a1 : Int) : Option (Int × Int × Int × Int) := (civil_Date.f a0).bind fun bt108 => (if bt108.2.2.2 = 0 then ((civil_many.f a1).bind fun t112 => (if t112 = 0 then (some (0, 0, 0, 2)) else ((civil_many.f a1).bind fun t113 => (some (a1, bt108.1, wrap64 ((wrap64 (Int.tdiv (wrap64 ((wrap64 (bt108.2.1 - 1)) * t113)) 12)) + 1), 0))))) else (some (0, 0, 0, bt108.2.2.2)))
set_option maxHeartbeats 8000000 in
set_option maxRecDepth 100000 in
theorem civil_Of.calls (a0 : Int) (a1 : Int) (r1 : Int) (r2 : Int) (r3 : Int) (r4 : Int) (w : World) (h : civil_Of.f a0 a1 = some (r1, r2, r3, r4)) :
    Calls Try.prog 31 #[.int .i64 a0, .int .i64 a1] w fun e w' => e = .returned (.tuple #[.agg #[.int .i64 r1, .int .i64 r2, .int .i64 r3], .int .i64 r4]) ∧ Below w.heap.size w w' := by
  have hu27 := Try.underlying27
  have HB := Aside0.mk (Below.refl w.heap.size w)
  have H : ((civil_Date.f a0).bind fun bt108 => (if bt108.2.2.2 = 0 then ((civil_many.f a1).bind fun t112 => (if t112 = 0 then (some (0, 0, 0, 2)) else ((civil_many.f a1).bind fun t113 => (some (a1, bt108.1, wrap64 ((wrap64 (Int.tdiv (wrap64 ((wrap64 (bt108.2.1 - 1)) * t113)) 12)) + 1), 0))))) else (some (0, 0, 0, bt108.2.2.2)))) = some (r1, r2, r3, r4) := h
  clear h
  replace H := Option.bind_eq_some_iff.mp H
  obtain ⟨⟨t108, t109, t110, t111⟩, A30, H⟩ := H
  replace H : (if t111 = 0 then ((civil_many.f a1).bind fun t112 => (if t112 = 0 then (some (0, 0, 0, 2)) else ((civil_many.f a1).bind fun t113 => (some (a1, t108, wrap64 ((wrap64 (Int.tdiv (wrap64 ((wrap64 (t109 - 1)) * t113)) 12)) + 1), 0))))) else (some (0, 0, 0, t111))) = some (r1, r2, r3, r4) := H
  have A3 := Aside0.mk A30
  clear A30
  by_cases c4 : t111 = 0
  · rw [if_pos c4] at H
    have c4b0 : (t111 == 0) = true := beq_iff_eq.mpr c4
    have c4b1 : (t111 != 0) = false := bne_eq_false_iff_eq.mpr c4
    clear c4
    replace H := Option.bind_eq_some_iff.mp H
    obtain ⟨t112, A50, H⟩ := H
    replace H : (if t112 = 0 then (some (0, 0, 0, 2)) else ((civil_many.f a1).bind fun t113 => (some (a1, t108, wrap64 ((wrap64 (Int.tdiv (wrap64 ((wrap64 (t109 - 1)) * t113)) 12)) + 1), 0)))) = some (r1, r2, r3, r4) := H
    have A5 := Aside0.mk A50
    clear A50
    by_cases c6 : t112 = 0
    · rw [if_pos c6] at H
      have c6b0 : (t112 == 0) = true := beq_iff_eq.mpr c6
      have c6b1 : (t112 != 0) = false := bne_eq_false_iff_eq.mpr c6
      clear c6
      simp only [Option.some.injEq, Prod.mk.injEq] at H
      obtain ⟨rfl, rfl, rfl, rfl⟩ := H
      go_enter Try.func31, Try.ntmps31
      go_wp2_with (first | ((with_reducible refine gate_dst (N := 4) rfl ?_); refine box_event ?hg (N := 4) ?hd (cs := #[.int .i64 0, .int .i64 0, .int .i64 0]) (t := 27) ?hr ?_; (case hd => rfl); (case hg => rfl); (case hr => first | (go_simp; done) | (go_simp; rfl)); intro gb107 hg w7 hbox hb; have n0_ := Aside0.mk (below_step (by repeat (first | (with_reducible first | exact HB.out | apply below_alloc | apply pw_below_drewN | apply below_drew1) | exact HB.out)) hb); have n1_ := Aside0.mk (hbox); have n2_ := Aside0.mk ((by rw [hg]; exact (below_size (by repeat (first | (with_reducible first | exact HB.out | apply below_alloc | apply pw_below_drewN | apply below_drew1) | exact HB.out))) : w.heap.size ≤ gb107)); have n3_ := Aside0.mk ((by rw [hg]; exact (below_size (by repeat (first | (with_reducible first | exact HB.out | apply below_alloc | apply pw_below_drewN | apply below_drew1) | exact HB.out))) : w.heap.size ≤ gb107)); clear HB; have HB := n0_; have BK107 := n1_; have GW107 := n2_; have GE107 := n3_; clear n0_ n1_ n2_ n3_; clear hb hbox hg) | ((with_reducible refine gate_callee (f := 47) rfl ?_); refine goesL_ (some 12) rfl rfl Try.func47 (by kernel_rfl) rfl #[.int .i64 a0] rfl (by (try simp only [List.map_toArray, List.map_cons, List.map_nil]); first | done | rfl | (simp only [List.length_drop, List.length_take]; rfl)) ?_; (with_reducible refine (civil_Date.calls a0 t108 t109 t110 t111 _ A3.out).mono ?_); rintro e w8 ⟨rfl, hb⟩; refine ⟨_, rfl, ?_⟩; have n0_ := Aside0.mk (blk_below (g := gb107) (o := .cells #[.int .i64 0, .int .i64 0, .int .i64 0] 27 (0, 0)) (by (with_reducible repeat (first | refine blk_drewN ?_ _ | refine blk_drew ?_ | refine blk_alloc ?_ _)); exact BK107.out) hb); have n1_ := Aside0.mk (below_step (by repeat (first | (with_reducible first | exact HB.out | apply below_alloc | apply pw_below_drewN | apply below_drew1 | refine below_set ?_ GE107.out) | exact HB.out)) hb); clear BK107; clear HB; have BK107 := n0_; have HB := n1_; clear n0_ n1_; (try clear hb); (try clear hb2); (try clear hk); (try clear hi)) | ((with_reducible refine gate_callee (f := 30) rfl ?_); refine goesL_ (some 24) rfl rfl Try.func30 (by kernel_rfl) rfl #[.int .i64 a1] rfl (by (try simp only [List.map_toArray, List.map_cons, List.map_nil]); first | done | rfl | (simp only [List.length_drop, List.length_take]; rfl)) ?_; (with_reducible refine (civil_many.calls a1 t112 _ A5.out).mono ?_); rintro e w' ⟨rfl, ⟨nd, rfl⟩⟩; refine ⟨_, rfl, ?_⟩; (try (rw [drewN_self w8]; generalize hq_ : World.drewN w8 _ = w8; have n0_ : Aside0 (w8.heap[gb107]? = some (.cells #[.int .i64 0, .int .i64 0, .int .i64 0] 27 (0, 0))) := ⟨by rw [← hq_]; exact (by (with_reducible repeat (first | refine blk_drewN ?_ _ | refine blk_drew ?_ | refine blk_alloc ?_ _)); exact BK107.out)⟩; have n1_ : Aside0 (Below w.heap.size w w8) := ⟨by rw [← hq_]; exact (by repeat (first | (with_reducible first | exact HB.out | apply below_alloc | apply pw_below_drewN | apply below_drew1 | refine below_set ?_ GE107.out) | exact HB.out))⟩; clear BK107 HB hq_; have BK107 := n0_; have HB := n1_; clear n0_ n1_)); have hcz9_0 : w8.cell? ⟨gb107, 0, none⟩ = some (.int .i64 0) := (blk_cell BK107.out 0).trans rfl; have hcz9_1 : w8.cell? ⟨gb107, 1, none⟩ = some (.int .i64 0) := (blk_cell BK107.out 1).trans rfl; have hcz9_2 : w8.cell? ⟨gb107, 2, none⟩ = some (.int .i64 0) := (blk_cell BK107.out 2).trans rfl; have hfz9_0 := blk_frozen BK107.out 0; have hfz9_1 := blk_frozen BK107.out 1; have hfz9_2 := blk_frozen BK107.out 2))
      refine bodyPost_ret (results_ct rfl _ _ gb107 27 #[.int .i64 0, .int .i64 0, .int .i64 0] (0, 0) _ rfl (by (with_reducible repeat (first | refine blk_drewN ?_ _ | refine blk_drew ?_ | refine blk_alloc ?_ _)); refine blk_put (cs := #[.int .i64 0, .int .i64 0, .int .i64 0]) ?_ 2 _ rfl; (with_reducible repeat (first | refine blk_drewN ?_ _ | refine blk_drew ?_ | refine blk_alloc ?_ _)); refine blk_put (cs := #[.int .i64 0, .int .i64 0, .int .i64 0]) ?_ 1 _ rfl; (with_reducible repeat (first | refine blk_drewN ?_ _ | refine blk_drew ?_ | refine blk_alloc ?_ _)); refine blk_put (cs := #[.int .i64 0, .int .i64 0, .int .i64 0]) ?_ 0 _ rfl; (with_reducible repeat (first | refine blk_drewN ?_ _ | refine blk_drew ?_ | refine blk_alloc ?_ _)); exact BK107.out) Try.underlying27 rfl (by kernel_rfl)) rfl ?_
      exact ⟨by first | rfl | (simp [errW_none, errW_some] <;> rfl) | (simp [*, errW_none, errW_some] <;> rfl), by repeat (first | (with_reducible first | exact HB.out | apply below_alloc | apply pw_below_drewN | apply below_drew1 | refine below_set ?_ GE107.out) | exact HB.out)⟩
    · rw [if_neg c6] at H
      have c6b0 : (t112 == 0) = false := beq_eq_false_iff_ne.mpr c6
      have c6b1 : (t112 != 0) = true := bne_iff_ne.mpr c6
      replace H := Option.bind_eq_some_iff.mp H
      obtain ⟨t113, A100, H⟩ := H
      replace H : (some (a1, t108, wrap64 ((wrap64 (Int.tdiv (wrap64 ((wrap64 (t109 - 1)) * t113)) 12)) + 1), 0)) = some (r1, r2, r3, r4) := H
      have A10 := Aside0.mk A100
      clear A100
      simp only [Option.some.injEq, Prod.mk.injEq] at H
      obtain ⟨rfl, rfl, rfl, rfl⟩ := H
      go_enter Try.func31, Try.ntmps31
      go_wp2_with (first | ((with_reducible refine gate_dst (N := 4) rfl ?_); refine box_event ?hg (N := 4) ?hd (cs := #[.int .i64 0, .int .i64 0, .int .i64 0]) (t := 27) ?hr ?_; (case hd => rfl); (case hg => rfl); (case hr => first | (go_simp; done) | (go_simp; rfl)); intro gb107 hg w11 hbox hb; have n0_ := Aside0.mk (below_step (by repeat (first | (with_reducible first | exact HB.out | apply below_alloc | apply pw_below_drewN | apply below_drew1) | exact HB.out)) hb); have n1_ := Aside0.mk (hbox); have n2_ := Aside0.mk ((by rw [hg]; exact (below_size (by repeat (first | (with_reducible first | exact HB.out | apply below_alloc | apply pw_below_drewN | apply below_drew1) | exact HB.out))) : w.heap.size ≤ gb107)); have n3_ := Aside0.mk ((by rw [hg]; exact (below_size (by repeat (first | (with_reducible first | exact HB.out | apply below_alloc | apply pw_below_drewN | apply below_drew1) | exact HB.out))) : w.heap.size ≤ gb107)); clear HB; have HB := n0_; have BK107 := n1_; have GW107 := n2_; have GE107 := n3_; clear n0_ n1_ n2_ n3_; clear hb hbox hg) | ((with_reducible refine gate_callee (f := 47) rfl ?_); refine goesL_ (some 12) rfl rfl Try.func47 (by kernel_rfl) rfl #[.int .i64 a0] rfl (by (try simp only [List.map_toArray, List.map_cons, List.map_nil]); first | done | rfl | (simp only [List.length_drop, List.length_take]; rfl)) ?_; (with_reducible refine (civil_Date.calls a0 t108 t109 t110 t111 _ A3.out).mono ?_); rintro e w12 ⟨rfl, hb⟩; refine ⟨_, rfl, ?_⟩; have n0_ := Aside0.mk (blk_below (g := gb107) (o := .cells #[.int .i64 0, .int .i64 0, .int .i64 0] 27 (0, 0)) (by (with_reducible repeat (first | refine blk_drewN ?_ _ | refine blk_drew ?_ | refine blk_alloc ?_ _)); exact BK107.out) hb); have n1_ := Aside0.mk (below_step (by repeat (first | (with_reducible first | exact HB.out | apply below_alloc | apply pw_below_drewN | apply below_drew1 | refine below_set ?_ GE107.out) | exact HB.out)) hb); clear BK107; clear HB; have BK107 := n0_; have HB := n1_; clear n0_ n1_; (try clear hb); (try clear hb2); (try clear hk); (try clear hi)) | ((with_reducible refine gate_callee (f := 30) rfl ?_); refine goesL_ (some 24) rfl rfl Try.func30 (by kernel_rfl) rfl #[.int .i64 a1] rfl (by (try simp only [List.map_toArray, List.map_cons, List.map_nil]); first | done | rfl | (simp only [List.length_drop, List.length_take]; rfl)) ?_; (with_reducible refine (civil_many.calls a1 t112 _ A5.out).mono ?_); rintro e w' ⟨rfl, ⟨nd, rfl⟩⟩; refine ⟨_, rfl, ?_⟩; (try (rw [drewN_self w12]; generalize hq_ : World.drewN w12 _ = w12; have n0_ : Aside0 (w12.heap[gb107]? = some (.cells #[.int .i64 0, .int .i64 0, .int .i64 0] 27 (0, 0))) := ⟨by rw [← hq_]; exact (by (with_reducible repeat (first | refine blk_drewN ?_ _ | refine blk_drew ?_ | refine blk_alloc ?_ _)); exact BK107.out)⟩; have n1_ : Aside0 (Below w.heap.size w w12) := ⟨by rw [← hq_]; exact (by repeat (first | (with_reducible first | exact HB.out | apply below_alloc | apply pw_below_drewN | apply below_drew1 | refine below_set ?_ GE107.out) | exact HB.out))⟩; clear BK107 HB hq_; have BK107 := n0_; have HB := n1_; clear n0_ n1_))) | ((with_reducible refine gate_callee (f := 30) rfl ?_); refine goesL_ (some 32) rfl rfl Try.func30 (by kernel_rfl) rfl #[.int .i64 a1] rfl (by (try simp only [List.map_toArray, List.map_cons, List.map_nil]); first | done | rfl | (simp only [List.length_drop, List.length_take]; rfl)) ?_; (with_reducible refine (civil_many.calls a1 t113 _ A10.out).mono ?_); rintro e w' ⟨rfl, ⟨nd, rfl⟩⟩; refine ⟨_, rfl, ?_⟩; (try (rw [drewN_self w12]; generalize hq_ : World.drewN w12 _ = w12; have n0_ : Aside0 (w12.heap[gb107]? = some (.cells #[.int .i64 0, .int .i64 0, .int .i64 0] 27 (0, 0))) := ⟨by rw [← hq_]; exact (by (with_reducible repeat (first | refine blk_drewN ?_ _ | refine blk_drew ?_ | refine blk_alloc ?_ _)); exact BK107.out)⟩; have n1_ : Aside0 (Below w.heap.size w w12) := ⟨by rw [← hq_]; exact (by repeat (first | (with_reducible first | exact HB.out | apply below_alloc | apply pw_below_drewN | apply below_drew1 | refine below_set ?_ GE107.out) | exact HB.out))⟩; clear BK107 HB hq_; have BK107 := n0_; have HB := n1_; clear n0_ n1_)); have hcz13_0 : w12.cell? ⟨gb107, 0, none⟩ = some (.int .i64 0) := (blk_cell BK107.out 0).trans rfl; have hcz13_1 : w12.cell? ⟨gb107, 1, none⟩ = some (.int .i64 0) := (blk_cell BK107.out 1).trans rfl; have hcz13_2 : w12.cell? ⟨gb107, 2, none⟩ = some (.int .i64 0) := (blk_cell BK107.out 2).trans rfl; have hfz13_0 := blk_frozen BK107.out 0; have hfz13_1 := blk_frozen BK107.out 1; have hfz13_2 := blk_frozen BK107.out 2))
      refine bodyPost_ret (results_ct rfl _ _ gb107 27 #[.int .i64 a1, .int .i64 t108, .int .i64 (wrap64 ((wrap64 (Int.tdiv (wrap64 ((wrap64 (t109 - 1)) * t113)) 12)) + 1))] (0, 0) _ rfl (by (with_reducible repeat (first | refine blk_drewN ?_ _ | refine blk_drew ?_ | refine blk_alloc ?_ _)); refine blk_put (cs := #[.int .i64 a1, .int .i64 t108, .int .i64 0]) ?_ 2 _ rfl; (with_reducible repeat (first | refine blk_drewN ?_ _ | refine blk_drew ?_ | refine blk_alloc ?_ _)); refine blk_put (cs := #[.int .i64 a1, .int .i64 0, .int .i64 0]) ?_ 1 _ rfl; (with_reducible repeat (first | refine blk_drewN ?_ _ | refine blk_drew ?_ | refine blk_alloc ?_ _)); refine blk_put (cs := #[.int .i64 0, .int .i64 0, .int .i64 0]) ?_ 0 _ rfl; (with_reducible repeat (first | refine blk_drewN ?_ _ | refine blk_drew ?_ | refine blk_alloc ?_ _)); exact BK107.out) Try.underlying27 rfl (by kernel_rfl)) rfl ?_
      exact ⟨by first | rfl | (simp [errW_none, errW_some] <;> rfl) | (simp [*, errW_none, errW_some] <;> rfl), by repeat (first | (with_reducible first | exact HB.out | apply below_alloc | apply pw_below_drewN | apply below_drew1 | refine below_set ?_ GE107.out) | exact HB.out)⟩
  · rw [if_neg c4] at H
    have c4b0 : (t111 == 0) = false := beq_eq_false_iff_ne.mpr c4
    have c4b1 : (t111 != 0) = true := bne_iff_ne.mpr c4
    simp only [Option.some.injEq, Prod.mk.injEq] at H
    obtain ⟨rfl, rfl, rfl, rfl⟩ := H
    go_enter Try.func31, Try.ntmps31
    go_wp2_with (first | ((with_reducible refine gate_dst (N := 4) rfl ?_); refine box_event ?hg (N := 4) ?hd (cs := #[.int .i64 0, .int .i64 0, .int .i64 0]) (t := 27) ?hr ?_; (case hd => rfl); (case hg => rfl); (case hr => first | (go_simp; done) | (go_simp; rfl)); intro gb107 hg w14 hbox hb; have n0_ := Aside0.mk (below_step (by repeat (first | (with_reducible first | exact HB.out | apply below_alloc | apply pw_below_drewN | apply below_drew1) | exact HB.out)) hb); have n1_ := Aside0.mk (hbox); have n2_ := Aside0.mk ((by rw [hg]; exact (below_size (by repeat (first | (with_reducible first | exact HB.out | apply below_alloc | apply pw_below_drewN | apply below_drew1) | exact HB.out))) : w.heap.size ≤ gb107)); have n3_ := Aside0.mk ((by rw [hg]; exact (below_size (by repeat (first | (with_reducible first | exact HB.out | apply below_alloc | apply pw_below_drewN | apply below_drew1) | exact HB.out))) : w.heap.size ≤ gb107)); clear HB; have HB := n0_; have BK107 := n1_; have GW107 := n2_; have GE107 := n3_; clear n0_ n1_ n2_ n3_; clear hb hbox hg) | ((with_reducible refine gate_callee (f := 47) rfl ?_); refine goesL_ (some 12) rfl rfl Try.func47 (by kernel_rfl) rfl #[.int .i64 a0] rfl (by (try simp only [List.map_toArray, List.map_cons, List.map_nil]); first | done | rfl | (simp only [List.length_drop, List.length_take]; rfl)) ?_; (with_reducible refine (civil_Date.calls a0 t108 t109 t110 t111 _ A3.out).mono ?_); rintro e w15 ⟨rfl, hb⟩; refine ⟨_, rfl, ?_⟩; have n0_ := Aside0.mk (blk_below (g := gb107) (o := .cells #[.int .i64 0, .int .i64 0, .int .i64 0] 27 (0, 0)) (by (with_reducible repeat (first | refine blk_drewN ?_ _ | refine blk_drew ?_ | refine blk_alloc ?_ _)); exact BK107.out) hb); have n1_ := Aside0.mk (below_step (by repeat (first | (with_reducible first | exact HB.out | apply below_alloc | apply pw_below_drewN | apply below_drew1 | refine below_set ?_ GE107.out) | exact HB.out)) hb); clear BK107; clear HB; have BK107 := n0_; have HB := n1_; clear n0_ n1_; (try clear hb); (try clear hb2); (try clear hk); (try clear hi); have hcz16_0 : w15.cell? ⟨gb107, 0, none⟩ = some (.int .i64 0) := (blk_cell BK107.out 0).trans rfl; have hcz16_1 : w15.cell? ⟨gb107, 1, none⟩ = some (.int .i64 0) := (blk_cell BK107.out 1).trans rfl; have hcz16_2 : w15.cell? ⟨gb107, 2, none⟩ = some (.int .i64 0) := (blk_cell BK107.out 2).trans rfl; have hfz16_0 := blk_frozen BK107.out 0; have hfz16_1 := blk_frozen BK107.out 1; have hfz16_2 := blk_frozen BK107.out 2))
    refine bodyPost_ret (results_ct rfl _ _ gb107 27 #[.int .i64 0, .int .i64 0, .int .i64 0] (0, 0) _ rfl (by (with_reducible repeat (first | refine blk_drewN ?_ _ | refine blk_drew ?_ | refine blk_alloc ?_ _)); refine blk_put (cs := #[.int .i64 0, .int .i64 0, .int .i64 0]) ?_ 2 _ rfl; (with_reducible repeat (first | refine blk_drewN ?_ _ | refine blk_drew ?_ | refine blk_alloc ?_ _)); refine blk_put (cs := #[.int .i64 0, .int .i64 0, .int .i64 0]) ?_ 1 _ rfl; (with_reducible repeat (first | refine blk_drewN ?_ _ | refine blk_drew ?_ | refine blk_alloc ?_ _)); refine blk_put (cs := #[.int .i64 0, .int .i64 0, .int .i64 0]) ?_ 0 _ rfl; (with_reducible repeat (first | refine blk_drewN ?_ _ | refine blk_drew ?_ | refine blk_alloc ?_ _)); exact BK107.out) Try.underlying27 rfl (by kernel_rfl)) rfl ?_
    exact ⟨by first | rfl | (simp [errW_none, errW_some] <;> rfl) | (simp [*, errW_none, errW_some] <;> rfl), by repeat (first | (with_reducible first | exact HB.out | apply below_alloc | apply pw_below_drewN | apply below_drew1 | refine below_set ?_ GE107.out) | exact HB.out)⟩
end Go.Proofs.Ytogmjkmnknaieaa.Print
namespace Go.Proofs.Ytogmjkmnknaieaa.Print
open Go.RowKit Go.Proofs.YtogmjkmnknaieaaW.PrintWords Go.Proofs.YtogmjkmnknaieaaW.PrintLast Go.Proofs.YtogmjkmnknaieaaW.PrintMore
set_option linter.unusedVariables false
set_option linter.unusedSimpArgs false
theorem date_bd (n : Int) (h : (dateV n).2.2.2 = 0) : (0 ≤ n ∧ n ≤ 2932896) ∧ (dateV n).1 = yearV n ∧ (dateV n).2.1 = (monthV (leapB (yearV n)) (n - begV (yearV n)) : Int) := by
  unfold dateV at h ⊢
  by_cases hr : 0 ≤ n ∧ n ≤ 2932896
  · rw [if_pos hr] at h ⊢; exact ⟨hr, rfl, rfl⟩
  · rw [if_neg hr] at h; simp at h
def ofV (n kd : Int) : Int × Int × Int × Int :=
  if (dateV n).2.2.2 = 0 then (if manyV kd = 0 then (0, 0, 0, 2) else (kd, (dateV n).1, ((dateV n).2.1 - 1) / eachV kd + 1, 0)) else (0, 0, 0, (dateV n).2.2.2)
theorem month_of (n : Int) (h : (dateV n).2.2.2 = 0) : 1 ≤ (dateV n).2.1 ∧ (dateV n).2.1 ≤ 12 ∧ 1970 ≤ (dateV n).1 ∧ (dateV n).1 ≤ 9999 := by
  obtain ⟨hr, h1, h2⟩ := date_bd n h
  have ys := year_spec n hr.1 hr.2
  have hs := beg_succ (yearV n) ys.1 ys.2.1
  have hlast : n - begV (yearV n) < cumV (leapB (yearV n)) 12 := by
    rw [cum_last]; unfold daysV at hs; omega
  have ms := month_spec (leapB (yearV n)) (n - begV (yearV n)) (by omega) hlast
  rw [h1, h2]; omega
theorem each_many (m kd : Int) (h1 : 1 ≤ m) (h2 : m ≤ 12) (h : manyV kd ≠ 0) : (m - 1) * manyV kd / 12 = (m - 1) / eachV kd ∧ 0 ≤ (m - 1) * manyV kd ∧ (m - 1) * manyV kd ≤ 132 ∧ 0 ≤ (m - 1) / eachV kd ∧ (m - 1) / eachV kd ≤ 11 := by
  rcases many_cases kd with ⟨_, e2, e3⟩ | ⟨_, e2, e3⟩ | ⟨_, e2, e3⟩ | ⟨_, _, _, e2⟩
  · rw [e2, e3]; omega
  · rw [e2, e3]; omega
  · rw [e2, e3]; omega
  · exact absurd e2 h
theorem pro_of (n kd : Int) : civil_Of.f n kd = some (ofV n kd) := by
  unfold civil_Of.f ofV
  rw [pro_date]
  simp only [Option.bind_some, pro_many]
  by_cases h : (dateV n).2.2.2 = 0
  · rw [if_pos h, if_pos h]
    have hm := month_of n h
    by_cases hk : manyV kd = 0
    · rw [if_pos hk, if_pos hk]
    · have he := each_many (dateV n).2.1 kd hm.1 hm.2.1 hk
      rw [if_neg hk, if_neg hk, cw64 (x := (dateV n).2.1 - 1) (by omega) (by omega), cw64 (x := ((dateV n).2.1 - 1) * manyV kd) (by omega) (by omega), Int.tdiv_eq_ediv_of_nonneg he.2.1, he.1, cw64 (x := ((dateV n).2.1 - 1) / eachV kd) (by omega) (by omega), cw64 (by omega) (by omega)]
  · rw [if_neg h, if_neg h]
theorem ref_of (n kd : Int) : Ev (fun k => octroiref04_Of.f k n kd) (ofV n kd) := by
  unfold octroiref04_Of.f
  refine cevb (ref_date n) (β := Int × Int × Int × Int) (f := fun bt261 k => (if bt261.2.2.2 = 0 then ((octroiref04_Many.f kd).bind fun t265 => (if t265 = 0 then (some (0, 0, 0, 2)) else ((octroiref04_Many.f kd).bind fun t266 => (if t266 = 0 then (none) else (if (wrap64 (Int.tdiv (12 : Int) t266)) = 0 then (none) else (some (kd, bt261.1, wrap64 ((wrap64 (Int.tdiv (wrap64 (bt261.2.1 - 1)) (wrap64 (Int.tdiv (12 : Int) t266)))) + 1), 0))))))) else (some (0, 0, 0, bt261.2.2.2)))) (cevn (fun k => ?_))
  unfold ofV
  simp only [Option.bind_some, ref_many]
  by_cases h : (dateV n).2.2.2 = 0
  · rw [if_pos h, if_pos h]
    have hm := month_of n h
    by_cases hk : manyV kd = 0
    · rw [if_pos hk, if_pos hk]
    · have he := each_many (dateV n).2.1 kd hm.1 hm.2.1 hk
      have hb := each_bd kd
      rw [if_neg hk, if_neg hk, if_neg hk, each_tdiv kd hk, if_neg (by omega), cw64 (x := (dateV n).2.1 - 1) (by omega) (by omega), Int.tdiv_eq_ediv_of_nonneg (by omega), cw64 (x := ((dateV n).2.1 - 1) / eachV kd) (by omega) (by omega), cw64 (by omega) (by omega)]
  · rw [if_neg h, if_neg h]
end Go.Proofs.Ytogmjkmnknaieaa.Print
namespace Go.Proofs.Ytogmjkmnknaieaa.Print
open Go.RowKit Go.Proofs.YtogmjkmnknaieaaW.PrintWords Go.Proofs.YtogmjkmnknaieaaW.PrintLast Go.Proofs.YtogmjkmnknaieaaW.PrintMore
set_option linter.unusedVariables false
set_option linter.unusedSimpArgs false
theorem q4 {a b c d b' c' : Int} (h1 : b = b') (h2 : c = c') : (a, b, c, d) = (a, b', c', d) := by rw [h1, h2]
end Go.Proofs.Ytogmjkmnknaieaa.Print
