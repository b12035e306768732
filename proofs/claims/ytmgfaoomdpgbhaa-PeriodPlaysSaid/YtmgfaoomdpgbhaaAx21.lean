/- AX 21: what the evaluator tells, it tells on: contracts that are the evaluator's own (a callee walked in its caller's walk). -/
import Derived.Test.YtmgfaoomdpgbhaaX0
import Derived.Test.YtmgfaoomdpgbhaaX6
import Derived.Test.YtmgfaoomdpgbhaaAx8
import Derived.Test.YtmgfaoomdpgbhaaCivilA
import Derived.Test.YtmgfaoomdpgbhaaX3
import Derived.Test.YtmgfaoomdpgbhaaX5
import Derived.Test.YtmgfaoomdpgbhaaX8
import Derived.Test.YtmgfaoomdpgbhaaOwn1
import Derived.Test.YtmgfaoomdpgbhaaAx14
import Derived.Test.YtmgfaoomdpgbhaaAx4
import Derived.Test.YtmgfaoomdpgbhaaAx20
namespace Go.Proofs.Ytmgfaoomdpgbhaa.Print
open Go.RowKit Go.Proofs.YtmgfaoomdpgbhaaW.PrintWords Go.Proofs.YtmgfaoomdpgbhaaW.PrintLast Go.Proofs.YtmgfaoomdpgbhaaW.PrintMore
attribute [local go_sem] max2_int min2_int max_two min_two max_three min_three max_four min_four   -- for this text's walks alone
set_option linter.unusedVariables false
set_option linter.unusedSimpArgs false
mutual
def octroiref04_Cmp.j0 : Nat → Int → Int → Bool → Int → Int → Int → Int → Int → Int → Option (Int)
  | 0, _, _, _, _, _, _, _, _, _ => none
  | k + 1, x5, x7, x24, x143000, x143001, x143002, x144000, x144001, x144002 => if x24 = true then (some 0) else (if x5 = x7 then ((octroiref04_Last.f k x143000 x143001 x143002).bind fun bt148 => ((octroiref04_Last.f k x144000 x144001 x144002).bind fun bt150 => (octroiref04_Cmp.j1 k bt148.1 bt150.1))) else (octroiref04_Cmp.j1 k x5 x7))
def octroiref04_Cmp.j1 : Nat → Int → Int → Option (Int)
  | 0, _, _ => none
  | k + 1, x5, x7 => if x5 < x7 then (some (-1)) else (if x5 > x7 then (some 1) else (some 0))
end
def octroiref04_Cmp.f (k : Nat) (a0_0 : Int) (a0_1 : Int) (a0_2 : Int) (a1_0 : Int) (a1_1 : Int) (a1_2 : Int) : Option (Int) := (octroiref04_First.f k a0_0 a0_1 a0_2).bind fun bt144 => ((octroiref04_First.f k a1_0 a1_1 a1_2).bind fun bt146 => (if bt144.2 = 0 then (octroiref04_Cmp.j0 k bt144.1 bt146.1 (bt146.2 != 0) a0_0 a0_1 a0_2 a1_0 a1_1 a1_2) else (octroiref04_Cmp.j0 k bt144.1 bt146.1 true a0_0 a0_1 a0_2 a1_0 a1_1 a1_2)))
theorem octroiref04_Cmp.mono_l : ∀ k, (∀ y0 y1 y2 y3 y4 y5 y6 y7 y8, LeO (octroiref04_Cmp.j0 k y0 y1 y2 y3 y4 y5 y6 y7 y8) (octroiref04_Cmp.j0 (k + 1) y0 y1 y2 y3 y4 y5 y6 y7 y8)) ∧ (∀ y0 y1, LeO (octroiref04_Cmp.j1 k y0 y1) (octroiref04_Cmp.j1 (k + 1) y0 y1))
  | 0 => ⟨fun _ _ _ _ _ _ _ _ _ r h => by simp [octroiref04_Cmp.j0] at h, fun _ _ r h => by simp [octroiref04_Cmp.j1] at h⟩
  | k + 1 => by
    obtain ⟨ih0, ih1⟩ := octroiref04_Cmp.mono_l k
    refine ⟨?_, ?_⟩
    · intro y0 y1 y2 y3 y4 y5 y6 y7 y8
      unfold octroiref04_Cmp.j0
      repeat' first
      | (with_reducible exact ih0 _ _ _ _ _ _ _ _ _)
      | (with_reducible exact ih1 _ _)
      | (with_reducible exact octroiref04_First.mono _ _ _ _)
      | (with_reducible exact octroiref04_Last.mono _ _ _ _)
      | (with_reducible exact LeO.refl _)
      | (with_reducible exact LeO.none _)
      | (with_reducible refine LeO.ite ?_ ?_)
      | (with_reducible refine LeO.bind ?_ (fun _ => ?_))
      | exact ih0 _ _ _ _ _ _ _ _ _
      | exact ih1 _ _
      | exact octroiref04_First.mono _ _ _ _
      | exact octroiref04_Last.mono _ _ _ _
      | exact LeO.none _
      | refine LeO.ite ?_ ?_
      | refine LeO.bind ?_ (fun _ => ?_)
    · intro y0 y1
      unfold octroiref04_Cmp.j1
      repeat' first
      | (with_reducible exact ih0 _ _ _ _ _ _ _ _ _)
      | (with_reducible exact ih1 _ _)
      | (with_reducible exact octroiref04_First.mono _ _ _ _)
      | (with_reducible exact octroiref04_Last.mono _ _ _ _)
      | (with_reducible exact LeO.refl _)
      | (with_reducible exact LeO.none _)
      | (with_reducible refine LeO.ite ?_ ?_)
      | (with_reducible refine LeO.bind ?_ (fun _ => ?_))
      | exact ih0 _ _ _ _ _ _ _ _ _
      | exact ih1 _ _
      | exact octroiref04_First.mono _ _ _ _
      | exact octroiref04_Last.mono _ _ _ _
      | exact LeO.none _
      | refine LeO.ite ?_ ?_
      | refine LeO.bind ?_ (fun _ => ?_)
theorem octroiref04_Cmp.mono : ∀ a0 a1 a2 a3 a4 a5 k, LeO (octroiref04_Cmp.f k a0 a1 a2 a3 a4 a5) (octroiref04_Cmp.f (k + 1) a0 a1 a2 a3 a4 a5) := by
  intro a0 a1 a2 a3 a4 a5 k
  obtain ⟨ih0, ih1⟩ := octroiref04_Cmp.mono_l k
  unfold octroiref04_Cmp.f
  repeat' first
      | (with_reducible exact ih0 _ _ _ _ _ _ _ _ _)
      | (with_reducible exact ih1 _ _)
      | (with_reducible exact octroiref04_First.mono _ _ _ _)
      | (with_reducible exact octroiref04_Last.mono _ _ _ _)
      | (with_reducible exact LeO.refl _)
      | (with_reducible exact LeO.none _)
      | (with_reducible refine LeO.ite ?_ ?_)
      | (with_reducible refine LeO.bind ?_ (fun _ => ?_))
      | exact ih0 _ _ _ _ _ _ _ _ _
      | exact ih1 _ _
      | exact octroiref04_First.mono _ _ _ _
      | exact octroiref04_Last.mono _ _ _ _
      | exact LeO.none _
      | refine LeO.ite ?_ ?_
      | refine LeO.bind ?_ (fun _ => ?_)
set_option maxHeartbeats 8000000 in
set_option maxRecDepth 100000 in
theorem octroiref04_Cmp.calls (k : Nat) (a0_0 : Int) (a0_1 : Int) (a0_2 : Int) (a1_0 : Int) (a1_1 : Int) (a1_2 : Int) (r : Int) (w : World) (h : octroiref04_Cmp.f k a0_0 a0_1 a0_2 a1_0 a1_1 a1_2 = some r) :
    Calls Try.prog 15 #[.agg #[.int .i64 a0_0, .int .i64 a0_1, .int .i64 a0_2], .agg #[.int .i64 a1_0, .int .i64 a1_1, .int .i64 a1_2]] w fun e w' => e = .returned (.int .i64 r) ∧ Below w.heap.size w w' := by
  have hu24 := Try.underlying24
  have HB := Aside0.mk (Below.refl w.heap.size w)
  have H : ((octroiref04_First.f k a0_0 a0_1 a0_2).bind fun bt144 => ((octroiref04_First.f k a1_0 a1_1 a1_2).bind fun bt146 => (if bt144.2 = 0 then (octroiref04_Cmp.j0 k bt144.1 bt146.1 (bt146.2 != 0) a0_0 a0_1 a0_2 a1_0 a1_1 a1_2) else (octroiref04_Cmp.j0 k bt144.1 bt146.1 true a0_0 a0_1 a0_2 a1_0 a1_1 a1_2)))) = some r := h
  clear h
  replace H := Option.bind_eq_some_iff.mp H
  obtain ⟨⟨t144, t145⟩, A30, H⟩ := H
  replace H : ((octroiref04_First.f k a1_0 a1_1 a1_2).bind fun bt146 => (if t145 = 0 then (octroiref04_Cmp.j0 k t144 bt146.1 (bt146.2 != 0) a0_0 a0_1 a0_2 a1_0 a1_1 a1_2) else (octroiref04_Cmp.j0 k t144 bt146.1 true a0_0 a0_1 a0_2 a1_0 a1_1 a1_2))) = some r := H
  have A3 := Aside0.mk A30
  clear A30
  replace H := Option.bind_eq_some_iff.mp H
  obtain ⟨⟨t146, t147⟩, A40, H⟩ := H
  replace H : (if t145 = 0 then (octroiref04_Cmp.j0 k t144 t146 (t147 != 0) a0_0 a0_1 a0_2 a1_0 a1_1 a1_2) else (octroiref04_Cmp.j0 k t144 t146 true a0_0 a0_1 a0_2 a1_0 a1_1 a1_2)) = some r := H
  have A4 := Aside0.mk A40
  clear A40
  have HC5 := Aside0.mk H
  clear H
  go_enter Try.func15, Try.ntmps15
  go_upto_region 3 with (first | ((with_reducible refine gate_dst (N := 2) rfl ?_); refine box_event ?hg (N := 2) ?hd (cs := #[.int .i64 a0_0, .int .i64 a0_1, .int .i64 a0_2]) (t := 24) ?hr ?_; (case hd => rfl); (case hg => rfl); (case hr => first | (go_simp; done) | (go_simp; rfl)); intro gb142 hg w6 hbox hb; have n0_ := Aside0.mk (below_step (by repeat (first | (with_reducible first | exact HB.out | apply below_alloc | apply pw_below_drewN | apply below_drew1) | exact HB.out)) hb); have n1_ := Aside0.mk (hbox); have n2_ := Aside0.mk ((by rw [hg]; exact (below_size (by repeat (first | (with_reducible first | exact HB.out | apply below_alloc | apply pw_below_drewN | apply below_drew1) | exact HB.out))) : w.heap.size ≤ gb142)); have n3_ := Aside0.mk ((by rw [hg]; exact (below_size (by repeat (first | (with_reducible first | exact HB.out | apply below_alloc | apply pw_below_drewN | apply below_drew1) | exact HB.out))) : w.heap.size ≤ gb142)); clear HB; have HB := n0_; have BK142 := n1_; have GW142 := n2_; have GE142 := n3_; clear n0_ n1_ n2_ n3_; clear hb hbox hg) | ((with_reducible refine gate_dst (N := 3) rfl ?_); refine box_event ?hg (N := 3) ?hd (cs := #[.int .i64 a1_0, .int .i64 a1_1, .int .i64 a1_2]) (t := 24) ?hr ?_; (case hd => rfl); (case hg => rfl); (case hr => first | (go_simp; done) | (go_simp; rfl)); intro gb143 hg w7 hbox hb; have n0_ := Aside0.mk (blk_below (g := gb142) (o := .cells #[.int .i64 a0_0, .int .i64 a0_1, .int .i64 a0_2] 24 (0, 0)) (by (with_reducible repeat (first | refine blk_drewN ?_ _ | refine blk_drew ?_ | refine blk_alloc ?_ _)); exact BK142.out) hb); have n1_ := Aside0.mk (below_step (by repeat (first | (with_reducible first | exact HB.out | apply below_alloc | apply pw_below_drewN | apply below_drew1 | refine below_set ?_ GE142.out) | exact HB.out)) hb); have n2_ := Aside0.mk (hbox); have n3_ := Aside0.mk ((by rw [hg]; exact (below_size (by repeat (first | (with_reducible first | exact HB.out | apply below_alloc | apply pw_below_drewN | apply below_drew1 | refine below_set ?_ GE142.out) | exact HB.out))) : w.heap.size ≤ gb143)); have n4_ := Aside0.mk ((by rw [hg]; exact (below_size (by repeat (first | (with_reducible first | exact HB.out | apply below_alloc | apply pw_below_drewN | apply below_drew1 | refine below_set ?_ GE142.out) | exact HB.out))) : w.heap.size ≤ gb143)); have n5_ := Aside0.mk ((by rw [hg]; exact Nat.ne_of_lt (blk_lt (g := gb142) (o := .cells #[.int .i64 a0_0, .int .i64 a0_1, .int .i64 a0_2] 24 (0, 0)) (by (with_reducible repeat (first | refine blk_drewN ?_ _ | refine blk_drew ?_ | refine blk_alloc ?_ _)); exact BK142.out)) : gb142 ≠ gb143)); have n6_ := Aside0.mk ((by rw [hg]; exact Nat.ne_of_gt (blk_lt (g := gb142) (o := .cells #[.int .i64 a0_0, .int .i64 a0_1, .int .i64 a0_2] 24 (0, 0)) (by (with_reducible repeat (first | refine blk_drewN ?_ _ | refine blk_drew ?_ | refine blk_alloc ?_ _)); exact BK142.out)) : gb143 ≠ gb142)); clear BK142; clear HB; have BK142 := n0_; have HB := n1_; have BK143 := n2_; have GW143 := n3_; have GE143 := n4_; have NB142_143 := n5_; have NB143_142 := n6_; clear n0_ n1_ n2_ n3_ n4_ n5_ n6_; clear hb hbox hg; have hnb8 := NB142_143.out; have hnc8 := NB143_142.out; have hcz9_0 : w7.cell? ⟨gb142, 0, none⟩ = some (.int .i64 a0_0) := (blk_cell BK142.out 0).trans rfl; have hcz9_1 : w7.cell? ⟨gb142, 1, none⟩ = some (.int .i64 a0_1) := (blk_cell BK142.out 1).trans rfl; have hcz9_2 : w7.cell? ⟨gb142, 2, none⟩ = some (.int .i64 a0_2) := (blk_cell BK142.out 2).trans rfl; have hfz9_0 := blk_frozen BK142.out 0; have hfz9_1 := blk_frozen BK142.out 1; have hfz9_2 := blk_frozen BK142.out 2) | ((with_reducible refine gate_callee (f := 32) rfl ?_); refine goesL_ (some 11) rfl rfl Try.func32 (by kernel_rfl) rfl #[.agg #[.int .i64 a0_0, .int .i64 a0_1, .int .i64 a0_2]] rfl (by (try simp only [List.map_toArray, List.map_cons, List.map_nil]); first | done | rfl | (simp only [List.length_drop, List.length_take]; rfl)) ?_; (with_reducible refine (octroiref04_First.calls k a0_0 a0_1 a0_2 t144 t145 _ A3.out).mono ?_); rintro e w10 ⟨rfl, hb⟩; refine ⟨_, rfl, ?_⟩; have n0_ := Aside0.mk (blk_below (g := gb142) (o := .cells #[.int .i64 a0_0, .int .i64 a0_1, .int .i64 a0_2] 24 (0, 0)) (by (with_reducible repeat (first | refine blk_drewN ?_ _ | refine blk_drew ?_ | refine blk_alloc ?_ _)); exact BK142.out) hb); have n1_ := Aside0.mk (blk_below (g := gb143) (o := .cells #[.int .i64 a1_0, .int .i64 a1_1, .int .i64 a1_2] 24 (0, 0)) (by (with_reducible repeat (first | refine blk_drewN ?_ _ | refine blk_drew ?_ | refine blk_alloc ?_ _)); exact BK143.out) hb); have n2_ := Aside0.mk (below_step (by repeat (first | (with_reducible first | exact HB.out | apply below_alloc | apply pw_below_drewN | apply below_drew1 | refine below_set ?_ GE142.out | refine below_set ?_ GE143.out) | exact HB.out)) hb); clear BK142; clear BK143; clear HB; have BK142 := n0_; have BK143 := n1_; have HB := n2_; clear n0_ n1_ n2_; (try clear hb); (try clear hb2); (try clear hk); (try clear hi); have hcz11_0 : w10.cell? ⟨gb143, 0, none⟩ = some (.int .i64 a1_0) := (blk_cell BK143.out 0).trans rfl; have hcz11_1 : w10.cell? ⟨gb143, 1, none⟩ = some (.int .i64 a1_1) := (blk_cell BK143.out 1).trans rfl; have hcz11_2 : w10.cell? ⟨gb143, 2, none⟩ = some (.int .i64 a1_2) := (blk_cell BK143.out 2).trans rfl; have hfz11_0 := blk_frozen BK143.out 0; have hfz11_1 := blk_frozen BK143.out 1; have hfz11_2 := blk_frozen BK143.out 2) | ((with_reducible refine gate_callee (f := 32) rfl ?_); refine goesL_ (some 16) rfl rfl Try.func32 (by kernel_rfl) rfl #[.agg #[.int .i64 a1_0, .int .i64 a1_1, .int .i64 a1_2]] rfl (by (try simp only [List.map_toArray, List.map_cons, List.map_nil]); first | done | rfl | (simp only [List.length_drop, List.length_take]; rfl)) ?_; (with_reducible refine (octroiref04_First.calls k a1_0 a1_1 a1_2 t146 t147 _ A4.out).mono ?_); rintro e w12 ⟨rfl, hb⟩; refine ⟨_, rfl, ?_⟩; have n0_ := Aside0.mk (blk_below (g := gb142) (o := .cells #[.int .i64 a0_0, .int .i64 a0_1, .int .i64 a0_2] 24 (0, 0)) (by (with_reducible repeat (first | refine blk_drewN ?_ _ | refine blk_drew ?_ | refine blk_alloc ?_ _)); exact BK142.out) hb); have n1_ := Aside0.mk (blk_below (g := gb143) (o := .cells #[.int .i64 a1_0, .int .i64 a1_1, .int .i64 a1_2] 24 (0, 0)) (by (with_reducible repeat (first | refine blk_drewN ?_ _ | refine blk_drew ?_ | refine blk_alloc ?_ _)); exact BK143.out) hb); have n2_ := Aside0.mk (below_step (by repeat (first | (with_reducible first | exact HB.out | apply below_alloc | apply pw_below_drewN | apply below_drew1 | refine below_set ?_ GE142.out | refine below_set ?_ GE143.out) | exact HB.out)) hb); clear BK142; clear BK143; clear HB; have BK142 := n0_; have BK143 := n1_; have HB := n2_; clear n0_ n1_ n2_; (try clear hb); (try clear hb2); (try clear hk); (try clear hi)))
  (try simp only [Act.put, List.setIfInBounds_toArray, List.set_cons_zero, List.set_cons_succ])
  go_cut [24] (fun v24 wc => ∃ (kq : Nat) (x24_4 : Bool), v24 = .bool x24_4 ∧ Aside0 (octroiref04_Cmp.j0 kq t144 t146 x24_4 a0_0 a0_1 a0_2 a1_0 a1_1 a1_2 = some r) ∧ Aside0 (kq ≤ k) ∧ Aside0 (wc.heap[gb142]? = some (.cells #[.int .i64 a0_0, .int .i64 a0_1, .int .i64 a0_2] 24 (0, 0))) ∧ Aside0 (wc.heap[gb143]? = some (.cells #[.int .i64 a1_0, .int .i64 a1_1, .int .i64 a1_2] 24 (0, 0))) ∧ Aside0 (Below w.heap.size w wc))
  case first =>
    have H := HC5.out
    clear HC5
    by_cases c13 : t145 = 0
    · rw [if_pos c13] at H
      have c13b0 : (t145 == 0) = true := beq_iff_eq.mpr c13
      have c13b1 : (t145 != 0) = false := bne_eq_false_iff_eq.mpr c13
      clear c13
      (first | rw [c13b0] | (simp only [i64_w, i32_w]; rw [c13b0]) | skip)
      have H' := Aside0.mk H
      clear H
      go_wp2
      go_meet
      case rel => exact ⟨_, ((t147 != 0)), (by first | rfl | (simp; done) | (simp [*]; done)), H', ⟨by first | omega | exact Nat.le_refl _⟩, ⟨by (with_reducible repeat (first | refine blk_drewN ?_ _ | refine blk_drew ?_ | refine blk_alloc ?_ _)); exact BK142.out⟩, ⟨by (with_reducible repeat (first | refine blk_drewN ?_ _ | refine blk_drew ?_ | refine blk_alloc ?_ _)); exact BK143.out⟩, ⟨by repeat (first | (with_reducible first | exact HB.out | apply below_alloc | apply pw_below_drewN | apply below_drew1 | refine below_set ?_ GE142.out | refine below_set ?_ GE143.out) | exact HB.out)⟩⟩
    · rw [if_neg c13] at H
      have c13b0 : (t145 == 0) = false := beq_eq_false_iff_ne.mpr c13
      have c13b1 : (t145 != 0) = true := bne_iff_ne.mpr c13
      (first | rw [c13b0] | (simp only [i64_w, i32_w]; rw [c13b0]) | skip)
      have H' := Aside0.mk H
      clear H
      go_wp2
      go_meet
      case rel => exact ⟨_, (true), (by first | rfl | (simp; done) | (simp [*]; done)), H', ⟨by first | omega | exact Nat.le_refl _⟩, ⟨by (with_reducible repeat (first | refine blk_drewN ?_ _ | refine blk_drew ?_ | refine blk_alloc ?_ _)); exact BK142.out⟩, ⟨by (with_reducible repeat (first | refine blk_drewN ?_ _ | refine blk_drew ?_ | refine blk_alloc ?_ _)); exact BK143.out⟩, ⟨by repeat (first | (with_reducible first | exact HB.out | apply below_alloc | apply pw_below_drewN | apply below_drew1 | refine below_set ?_ GE142.out | refine below_set ?_ GE143.out) | exact HB.out)⟩⟩
  case rest =>
    clear HC5
    try clear c1
    try clear p2
    try clear c3
    try clear c8
    try clear c13
    try clear c13b0
    try clear c13b1
    try clear hcz11_0
    try clear hcz11_1
    try clear hcz11_2
    try clear hcz9_0
    try clear hcz9_1
    try clear hcz9_2
    try clear hfz11_0
    try clear hfz11_1
    try clear hfz11_2
    try clear hfz9_0
    try clear hfz9_1
    try clear hfz9_2
    obtain ⟨kq, x24_4, rfl, HA, HJ4, BK142, BK143, HB⟩ := hcut
    cases kq with
    | zero => exact absurd HA.out (by simp [octroiref04_Cmp.j0])
    | succ kj4 =>
      have H := HA.out
      clear HA
      simp only [octroiref04_Cmp.j0] at H
      by_cases c14 : x24_4 = true
      · subst c14
        have H1 : (some 0) = some r := by rw [if_pos rfl] at H; exact H
        clear H
        have H := H1
        clear H1
        obtain rfl := Option.some.inj H
        go_wp2
        go_ret
        exact ⟨by first | rfl | (simp [errW_none, errW_some] <;> rfl) | (simp [*, errW_none, errW_some] <;> rfl), by repeat (first | (with_reducible first | exact HB.out | apply below_alloc | apply pw_below_drewN | apply below_drew1 | refine below_set ?_ GE142.out | refine below_set ?_ GE143.out) | exact HB.out)⟩
      · replace c14 := Bool.eq_false_iff.mpr c14
        subst c14
        have H1 : (if t144 = t146 then ((octroiref04_Last.f kj4 a0_0 a0_1 a0_2).bind fun bt148 => ((octroiref04_Last.f kj4 a1_0 a1_1 a1_2).bind fun bt150 => (octroiref04_Cmp.j1 kj4 bt148.1 bt150.1))) else (octroiref04_Cmp.j1 kj4 t144 t146)) = some r := by rw [if_neg (show ¬ (false = true) by decide)] at H; exact H
        clear H
        have H := H1
        clear H1
        have HC15 := Aside0.mk H
        clear H
        go_upto_if 27 with (fail)
        go_cut [5, 7] (fun v5 v7 wc => ∃ (kq : Nat) (x5_14 : Int) (x7_14 : Int), v5 = .int .i64 x5_14 ∧ v7 = .int .i64 x7_14 ∧ Aside0 (octroiref04_Cmp.j1 kq x5_14 x7_14 = some r) ∧ Aside0 (kq ≤ kj4) ∧ Aside0 (wc.heap[gb142]? = some (.cells #[.int .i64 a0_0, .int .i64 a0_1, .int .i64 a0_2] 24 (0, 0))) ∧ Aside0 (wc.heap[gb143]? = some (.cells #[.int .i64 a1_0, .int .i64 a1_1, .int .i64 a1_2] 24 (0, 0))) ∧ Aside0 (Below w.heap.size w wc))
        case first =>
          have H := HC15.out
          clear HC15
          by_cases c16 : t144 = t146
          · rw [if_pos c16] at H
            have c16b0 : (t144 == t146) = true := beq_iff_eq.mpr c16
            have c16b1 : (t144 != t146) = false := bne_eq_false_iff_eq.mpr c16
            clear c16
            (first | rw [c16b0] | (simp only [i64_w, i32_w]; rw [c16b0]) | skip)
            replace H := Option.bind_eq_some_iff.mp H
            obtain ⟨⟨t148, t149⟩, A170, H⟩ := H
            replace H : ((octroiref04_Last.f kj4 a1_0 a1_1 a1_2).bind fun bt150 => (octroiref04_Cmp.j1 kj4 t148 bt150.1)) = some r := H
            have A17 := Aside0.mk A170
            clear A170
            replace H := Option.bind_eq_some_iff.mp H
            obtain ⟨⟨t150, t151⟩, A180, H⟩ := H
            replace H : (octroiref04_Cmp.j1 kj4 t148 t150) = some r := H
            have A18 := Aside0.mk A180
            clear A180
            have H' := Aside0.mk H
            clear H
            have hnb19 := NB142_143.out
            have hnc19 := NB143_142.out
            have hcz20_0 : wc.cell? ⟨gb142, 0, none⟩ = some (.int .i64 a0_0) := (blk_cell BK142.out 0).trans rfl
            have hcz20_1 : wc.cell? ⟨gb142, 1, none⟩ = some (.int .i64 a0_1) := (blk_cell BK142.out 1).trans rfl
            have hcz20_2 : wc.cell? ⟨gb142, 2, none⟩ = some (.int .i64 a0_2) := (blk_cell BK142.out 2).trans rfl
            have hfz20_0 := blk_frozen BK142.out 0
            have hfz20_1 := blk_frozen BK142.out 1
            have hfz20_2 := blk_frozen BK142.out 2
            go_wp2_with (first | ((with_reducible refine gate_callee (f := 33) rfl ?_); refine goesL_ (some 30) rfl rfl Try.func33 (by kernel_rfl) rfl #[.agg #[.int .i64 a0_0, .int .i64 a0_1, .int .i64 a0_2]] rfl (by (try simp only [List.map_toArray, List.map_cons, List.map_nil]); first | done | rfl | (simp only [List.length_drop, List.length_take]; rfl)) ?_; (with_reducible refine (octroiref04_Last.calls kj4 a0_0 a0_1 a0_2 t148 t149 _ A17.out).mono ?_); rintro e w21 ⟨rfl, hb⟩; refine ⟨_, rfl, ?_⟩; have n0_ := Aside0.mk (blk_below (g := gb142) (o := .cells #[.int .i64 a0_0, .int .i64 a0_1, .int .i64 a0_2] 24 (0, 0)) (by (with_reducible repeat (first | refine blk_drewN ?_ _ | refine blk_drew ?_ | refine blk_alloc ?_ _)); exact BK142.out) hb); have n1_ := Aside0.mk (blk_below (g := gb143) (o := .cells #[.int .i64 a1_0, .int .i64 a1_1, .int .i64 a1_2] 24 (0, 0)) (by (with_reducible repeat (first | refine blk_drewN ?_ _ | refine blk_drew ?_ | refine blk_alloc ?_ _)); exact BK143.out) hb); have n2_ := Aside0.mk (below_step (by repeat (first | (with_reducible first | exact HB.out | apply below_alloc | apply pw_below_drewN | apply below_drew1 | refine below_set ?_ GE142.out | refine below_set ?_ GE143.out) | exact HB.out)) hb); clear BK142; clear BK143; clear HB; have BK142 := n0_; have BK143 := n1_; have HB := n2_; clear n0_ n1_ n2_; (try clear hb); (try clear hb2); (try clear hk); (try clear hi); have hcz22_0 : w21.cell? ⟨gb143, 0, none⟩ = some (.int .i64 a1_0) := (blk_cell BK143.out 0).trans rfl; have hcz22_1 : w21.cell? ⟨gb143, 1, none⟩ = some (.int .i64 a1_1) := (blk_cell BK143.out 1).trans rfl; have hcz22_2 : w21.cell? ⟨gb143, 2, none⟩ = some (.int .i64 a1_2) := (blk_cell BK143.out 2).trans rfl; have hfz22_0 := blk_frozen BK143.out 0; have hfz22_1 := blk_frozen BK143.out 1; have hfz22_2 := blk_frozen BK143.out 2) | ((with_reducible refine gate_callee (f := 33) rfl ?_); refine goesL_ (some 35) rfl rfl Try.func33 (by kernel_rfl) rfl #[.agg #[.int .i64 a1_0, .int .i64 a1_1, .int .i64 a1_2]] rfl (by (try simp only [List.map_toArray, List.map_cons, List.map_nil]); first | done | rfl | (simp only [List.length_drop, List.length_take]; rfl)) ?_; (with_reducible refine (octroiref04_Last.calls kj4 a1_0 a1_1 a1_2 t150 t151 _ A18.out).mono ?_); rintro e w23 ⟨rfl, hb⟩; refine ⟨_, rfl, ?_⟩; have n0_ := Aside0.mk (blk_below (g := gb142) (o := .cells #[.int .i64 a0_0, .int .i64 a0_1, .int .i64 a0_2] 24 (0, 0)) (by (with_reducible repeat (first | refine blk_drewN ?_ _ | refine blk_drew ?_ | refine blk_alloc ?_ _)); exact BK142.out) hb); have n1_ := Aside0.mk (blk_below (g := gb143) (o := .cells #[.int .i64 a1_0, .int .i64 a1_1, .int .i64 a1_2] 24 (0, 0)) (by (with_reducible repeat (first | refine blk_drewN ?_ _ | refine blk_drew ?_ | refine blk_alloc ?_ _)); exact BK143.out) hb); have n2_ := Aside0.mk (below_step (by repeat (first | (with_reducible first | exact HB.out | apply below_alloc | apply pw_below_drewN | apply below_drew1 | refine below_set ?_ GE142.out | refine below_set ?_ GE143.out) | exact HB.out)) hb); clear BK142; clear BK143; clear HB; have BK142 := n0_; have BK143 := n1_; have HB := n2_; clear n0_ n1_ n2_; (try clear hb); (try clear hb2); (try clear hk); (try clear hi)))
            go_meet
            case rel => exact ⟨_, (t148), (t150), (by first | rfl | (simp; done) | (simp [*]; done)), (by first | rfl | (simp; done) | (simp [*]; done)), H', ⟨by have := HJ4.out; first | omega | exact Nat.le_refl _⟩, ⟨by (with_reducible repeat (first | refine blk_drewN ?_ _ | refine blk_drew ?_ | refine blk_alloc ?_ _)); exact BK142.out⟩, ⟨by (with_reducible repeat (first | refine blk_drewN ?_ _ | refine blk_drew ?_ | refine blk_alloc ?_ _)); exact BK143.out⟩, ⟨by repeat (first | (with_reducible first | exact HB.out | apply below_alloc | apply pw_below_drewN | apply below_drew1 | refine below_set ?_ GE142.out | refine below_set ?_ GE143.out) | exact HB.out)⟩⟩
          · rw [if_neg c16] at H
            have c16b0 : (t144 == t146) = false := beq_eq_false_iff_ne.mpr c16
            have c16b1 : (t144 != t146) = true := bne_iff_ne.mpr c16
            (first | rw [c16b0] | (simp only [i64_w, i32_w]; rw [c16b0]) | skip)
            have H' := Aside0.mk H
            clear H
            go_wp2
            go_meet
            case rel => exact ⟨_, (t144), (t146), (by first | rfl | (simp; done) | (simp [*]; done)), (by first | rfl | (simp; done) | (simp [*]; done)), H', ⟨by have := HJ4.out; first | omega | exact Nat.le_refl _⟩, ⟨by (with_reducible repeat (first | refine blk_drewN ?_ _ | refine blk_drew ?_ | refine blk_alloc ?_ _)); exact BK142.out⟩, ⟨by (with_reducible repeat (first | refine blk_drewN ?_ _ | refine blk_drew ?_ | refine blk_alloc ?_ _)); exact BK143.out⟩, ⟨by repeat (first | (with_reducible first | exact HB.out | apply below_alloc | apply pw_below_drewN | apply below_drew1 | refine below_set ?_ GE142.out | refine below_set ?_ GE143.out) | exact HB.out)⟩⟩
        case rest =>
          clear HC15
          try clear c1
          try clear p2
          try clear c3
          try clear c8
          try clear c13
          try clear c13b0
          try clear c13b1
          try clear c14
          try clear c15
          try clear c16
          try clear c16b0
          try clear c16b1
          try clear c19
          try clear hcz11_0
          try clear hcz11_1
          try clear hcz11_2
          try clear hcz20_0
          try clear hcz20_1
          try clear hcz20_2
          try clear hcz22_0
          try clear hcz22_1
          try clear hcz22_2
          try clear hcz9_0
          try clear hcz9_1
          try clear hcz9_2
          try clear hfz11_0
          try clear hfz11_1
          try clear hfz11_2
          try clear hfz20_0
          try clear hfz20_1
          try clear hfz20_2
          try clear hfz22_0
          try clear hfz22_1
          try clear hfz22_2
          try clear hfz9_0
          try clear hfz9_1
          try clear hfz9_2
          try clear p2
          obtain ⟨kq, x5_14, x7_14, rfl, rfl, HA, HJ14, BK142, BK143, HB⟩ := hcut
          cases kq with
          | zero => exact absurd HA.out (by simp [octroiref04_Cmp.j1])
          | succ kj14 =>
            have H := HA.out
            clear HA
            simp only [octroiref04_Cmp.j1] at H
            by_cases c24 : x5_14 < x7_14
            · rw [if_pos c24] at H
              have c24b0 : decide (x5_14 < x7_14) = true := decide_eq_true c24
              clear c24
              obtain rfl := Option.some.inj H
              go_wp2
              go_ret
              exact ⟨by first | rfl | (simp [errW_none, errW_some] <;> rfl) | (simp [*, errW_none, errW_some] <;> rfl), by repeat (first | (with_reducible first | exact HB.out | apply below_alloc | apply pw_below_drewN | apply below_drew1 | refine below_set ?_ GE142.out | refine below_set ?_ GE143.out) | exact HB.out)⟩
            · rw [if_neg c24] at H
              have c24b0 : decide (x5_14 < x7_14) = false := decide_eq_false c24
              clear c24
              by_cases c25 : x5_14 > x7_14
              · rw [if_pos c25] at H
                have c25b0 : decide (x7_14 < x5_14) = true := decide_eq_true c25
                clear c25
                obtain rfl := Option.some.inj H
                go_wp2
                go_ret
                exact ⟨by first | rfl | (simp [errW_none, errW_some] <;> rfl) | (simp [*, errW_none, errW_some] <;> rfl), by repeat (first | (with_reducible first | exact HB.out | apply below_alloc | apply pw_below_drewN | apply below_drew1 | refine below_set ?_ GE142.out | refine below_set ?_ GE143.out) | exact HB.out)⟩
              · rw [if_neg c25] at H
                have c25b0 : decide (x7_14 < x5_14) = false := decide_eq_false c25
                clear c25
                obtain rfl := Option.some.inj H
                go_wp2
                go_ret
                exact ⟨by first | rfl | (simp [errW_none, errW_some] <;> rfl) | (simp [*, errW_none, errW_some] <;> rfl), by repeat (first | (with_reducible first | exact HB.out | apply below_alloc | apply pw_below_drewN | apply below_drew1 | refine below_set ?_ GE142.out | refine below_set ?_ GE143.out) | exact HB.out)⟩
end Go.Proofs.Ytmgfaoomdpgbhaa.Print
namespace Go.Proofs.Ytmgfaoomdpgbhaa.Print
open Go.RowKit Go.Proofs.YtmgfaoomdpgbhaaW.PrintWords Go.Proofs.YtmgfaoomdpgbhaaW.PrintLast Go.Proofs.YtmgfaoomdpgbhaaW.PrintMore
set_option linter.unusedVariables false
set_option linter.unusedSimpArgs false
def manyV (kd : Int) : Int := if kd = 1 then 12 else if kd = 2 then 4 else if kd = 3 then 1 else 0
def eachV (kd : Int) : Int := if kd = 1 then 1 else if kd = 2 then 3 else 12
theorem many_cases (kd : Int) : (kd = 1 ∧ manyV kd = 12 ∧ eachV kd = 1) ∨ (kd = 2 ∧ manyV kd = 4 ∧ eachV kd = 3) ∨ (kd = 3 ∧ manyV kd = 1 ∧ eachV kd = 12) ∨ (kd ≠ 1 ∧ kd ≠ 2 ∧ kd ≠ 3 ∧ manyV kd = 0) := by
  unfold manyV eachV
  by_cases h1 : kd = 1
  · simp [h1]
  · by_cases h2 : kd = 2
    · simp [h2]
    · by_cases h3 : kd = 3
      · simp [h3]
      · simp [h1, h2, h3]
theorem pro_many (kd : Int) : civil_many.f kd = some (manyV kd) := by
  unfold civil_many.f manyV
  by_cases h1 : kd = 1 <;> by_cases h2 : kd = 2 <;> by_cases h3 : kd = 3 <;> simp [h1, h2, h3]
theorem ref_many (kd : Int) : octroiref04_Many.f kd = some (manyV kd) := by
  unfold octroiref04_Many.f manyV
  by_cases h1 : kd = 1 <;> by_cases h2 : kd = 2 <;> by_cases h3 : kd = 3 <;> simp [h1, h2, h3]
def goodB (kd y i : Int) : Bool := inY y && (decide (1 ≤ i) && decide (i ≤ manyV kd))
theorem goodB_iff (kd y i : Int) : goodB kd y i = true ↔ (1970 ≤ y ∧ y ≤ 9999) ∧ 1 ≤ i ∧ i ≤ manyV kd := by simp [goodB, inY]
theorem pro_good (kd y i : Int) : civil_Good.f kd y i = some (goodB kd y i) := by
  unfold civil_Good.f goodB
  rw [inYears_eq, pro_many]
  cases inY y <;> by_cases h : i ≥ 1 <;> simp [h] <;> omega
theorem ref_good (kd y i : Int) : octroiref04_Good.f kd y i = some (goodB kd y i) := by
  unfold octroiref04_Good.f goodB inY
  rw [ref_many]
  by_cases h1 : y ≥ 1970 <;> by_cases h2 : y ≤ 9999 <;> by_cases h : i ≥ 1 <;> simp [h, h1, h2] <;> omega
theorem many_bd (kd : Int) : 0 ≤ manyV kd ∧ manyV kd ≤ 12 := by rcases many_cases kd with h | h | h | h <;> omega
theorem each_bd (kd : Int) : 1 ≤ eachV kd ∧ eachV kd ≤ 12 := by unfold eachV; split <;> (try split) <;> omega
theorem each_tdiv (kd : Int) (h : manyV kd ≠ 0) : wrap64 (Int.tdiv 12 (manyV kd)) = eachV kd := by
  rcases many_cases kd with ⟨_, h2, h3⟩ | ⟨_, h2, h3⟩ | ⟨_, h2, h3⟩ | ⟨_, _, _, h2⟩
  · rw [h2, h3]; decide +kernel
  · rw [h2, h3]; decide +kernel
  · rw [h2, h3]; decide +kernel
  · exact absurd h2 h
theorem good_months {kd y i : Int} (h : goodB kd y i = true) : inY y = true ∧ manyV kd ≠ 0 ∧ 1 ≤ (i - 1) * eachV kd + 1 ∧ (i - 1) * eachV kd + 1 ≤ i * eachV kd ∧ i * eachV kd ≤ 12 ∧ 0 ≤ (i - 1) * eachV kd ∧ 1 ≤ i ∧ i ≤ 12 := by
  have hg := (goodB_iff kd y i).1 h
  refine ⟨(inY_iff y).2 hg.1, ?_⟩
  rcases many_cases kd with ⟨_, h2, h3⟩ | ⟨_, h2, h3⟩ | ⟨_, h2, h3⟩ | ⟨_, _, _, h2⟩ <;> (try rw [h3]) <;> rw [h2] at hg ⊢ <;> omega
def firstV (kd y i : Int) : Int × Int := if goodB kd y i = true then dayV y ((i - 1) * eachV kd + 1) 1 else (0, 2)
def lastV (kd y i : Int) : Int × Int := if goodB kd y i = true then dayV y (i * eachV kd) (lenV y (i * eachV kd)) else (0, 2)
theorem len_in_bd (y m : Int) (hy : inY y = true) (h1 : 1 ≤ m) (h2 : m ≤ 12) : 28 ≤ lenV y m ∧ lenV y m ≤ 31 := by
  rw [lenV_12 y m hy h1 h2]
  unfold len12
  split
  · split <;> omega
  · repeat (first | omega | split)
theorem day_ok (y m d : Int) (hd : 1 ≤ d ∧ d ≤ lenV y m) : dayV y m d = (begV y + cumV (leapB y) (m.toNat - 1) + d - 1, 0) := by unfold dayV; rw [if_pos hd]
def numV (kd y i : Int) : Int := (y - 1970) * manyV kd + i - 1
def nextV (kd y i by_ : Int) : Int × Int × Int × Int :=
  if goodB kd y i = true then (if by_ < -numV kd y i ∨ by_ ≥ 8030 * manyV kd - numV kd y i then (0, 0, 0, 30) else (kd, 1970 + (numV kd y i + by_) / manyV kd, (numV kd y i + by_) % manyV kd + 1, 0)) else (0, 0, 0, 2)
theorem num_bd {kd y i : Int} (h : goodB kd y i = true) : 0 ≤ numV kd y i ∧ numV kd y i < 8030 * manyV kd ∧ 1 ≤ manyV kd ∧ 0 ≤ (y - 1970) * manyV kd ∧ (y - 1970) * manyV kd ≤ 96360 := by
  have hg := (goodB_iff kd y i).1 h
  unfold numV
  rcases many_cases kd with ⟨_, h2, h3⟩ | ⟨_, h2, h3⟩ | ⟨_, h2, h3⟩ | ⟨_, _, _, h2⟩ <;> rw [h2] at hg ⊢ <;> omega
theorem next_num {kd y i b : Int} (h : goodB kd y i = true) (h1 : ¬ (b < -numV kd y i)) (h2 : ¬ (b ≥ 8030 * manyV kd - numV kd y i)) : Int.tdiv (numV kd y i + b) (manyV kd) = (numV kd y i + b) / manyV kd ∧ Int.tmod (numV kd y i + b) (manyV kd) = (numV kd y i + b) % manyV kd ∧ 0 ≤ (numV kd y i + b) / manyV kd ∧ (numV kd y i + b) / manyV kd < 8030 ∧ 0 ≤ (numV kd y i + b) % manyV kd ∧ (numV kd y i + b) % manyV kd < manyV kd := by
  have hn := num_bd h
  have hm := many_bd kd
  refine ⟨Int.tdiv_eq_ediv_of_nonneg (by omega), Int.tmod_eq_emod_of_nonneg (by omega), Int.ediv_nonneg (by omega) (by omega), Int.ediv_lt_of_lt_mul (by omega) (by omega), Int.emod_nonneg _ (by omega), Int.emod_lt_of_pos _ (by omega)⟩
theorem pro_next (kd y i b : Int) (hb : -9223372036854775808 ≤ b ∧ b ≤ 9223372036854775807) : civil_Next.f kd y i b = some (nextV kd y i b) := by
  unfold civil_Next.f nextV
  rw [pro_good, pro_many]
  cases h : goodB kd y i with
  | false => simp
  | true =>
    have hn := num_bd h
    have hg := (goodB_iff kd y i).1 h
    have hm := many_bd kd
    simp only [Option.bind_some, if_true]
    have e1 : wrap64 (wrap64 (wrap64 (wrap64 (y - 1970) * manyV kd) + i) - 1) = numV kd y i := by
      unfold numV at hn ⊢
      rw [cw64 (x := y - 1970) (by omega) (by omega), cw64 (x := (y - 1970) * manyV kd) (by omega) (by omega), cw64 (x := (y - 1970) * manyV kd + i) (by omega) (by omega), cw64 (by omega) (by omega)]
    rw [e1, cw64 (x := -numV kd y i) (by omega) (by omega), cw64 (x := 8030 * manyV kd) (by omega) (by omega), cw64 (x := 8030 * manyV kd - 1) (by omega) (by omega), cw64 (x := 8030 * manyV kd - 1 - numV kd y i) (by omega) (by omega)]
    by_cases h1 : b < -numV kd y i
    · rw [if_pos h1, if_pos (.inl h1)]
    · by_cases h2 : b ≥ 8030 * manyV kd - numV kd y i
      · rw [if_neg h1, if_pos (by omega), if_pos (.inr h2)]
      · have hx := next_num h h1 h2
        rw [if_neg h1, if_neg (by omega), if_neg (by omega), if_neg (by omega), cw64 (x := numV kd y i + b) (by omega) (by omega), hx.1, hx.2.1, cw64 (x := (numV kd y i + b) / manyV kd) (by omega) (by omega), cw64 (x := 1970 + _) (by omega) (by omega), cw64 (by omega) (by omega)]
theorem ref_next (kd y i b : Int) (hb : -9223372036854775808 ≤ b ∧ b ≤ 9223372036854775807) : octroiref04_Next.f kd y i b = some (nextV kd y i b) := by
  unfold octroiref04_Next.f nextV octroiref04_Number.f
  rw [ref_good, ref_many]
  cases h : goodB kd y i with
  | false => simp
  | true =>
    have hn := num_bd h
    have hg := (goodB_iff kd y i).1 h
    have hm := many_bd kd
    simp only [Option.bind_some, if_true]
    have e1 : wrap64 (wrap64 (wrap64 (wrap64 (y - 1970) * manyV kd) + i) - 1) = numV kd y i := by
      unfold numV at hn ⊢
      rw [cw64 (x := y - 1970) (by omega) (by omega), cw64 (x := (y - 1970) * manyV kd) (by omega) (by omega), cw64 (x := (y - 1970) * manyV kd + i) (by omega) (by omega), cw64 (by omega) (by omega)]
    rw [e1, cw64 (x := -numV kd y i) (by omega) (by omega), cw64 (x := 8030 * manyV kd) (by omega) (by omega), cw64 (x := 8030 * manyV kd - numV kd y i) (by omega) (by omega)]
    by_cases h1 : b < -numV kd y i
    · rw [if_pos h1, if_pos (.inl h1)]
    · by_cases h2 : b ≥ 8030 * manyV kd - numV kd y i
      · rw [if_neg h1, if_pos h2, if_pos (.inr h2)]
      · have hx := next_num h h1 h2
        rw [if_neg h1, if_neg h2, if_neg (by omega), if_neg (by omega), cw64 (x := numV kd y i + b) (by omega) (by omega), hx.1, hx.2.1, cw64 (x := (numV kd y i + b) / manyV kd) (by omega) (by omega), cw64 (x := 1970 + _) (by omega) (by omega), cw64 (by omega) (by omega)]
def withinV (kd y i n : Int) : Bool := decide ((firstV kd y i).2 = 0) && (decide ((firstV kd y i).1 ≤ n) && decide (n ≤ (lastV kd y i).1))
end Go.Proofs.Ytmgfaoomdpgbhaa.Print
namespace Go.Proofs.Ytmgfaoomdpgbhaa.Print
open Go.RowKit Go.Proofs.YtmgfaoomdpgbhaaW.PrintWords Go.Proofs.YtmgfaoomdpgbhaaW.PrintLast Go.Proofs.YtmgfaoomdpgbhaaW.PrintMore
attribute [local go_sem] max2_int min2_int max_two min_two max_three min_three max_four min_four   -- for this text's walks alone
set_option linter.unusedVariables false
set_option linter.unusedSimpArgs false
def civil_Of.f (a0 : Int) (a1 : Int) : Option (Int × Int × Int × Int) := (civil_Date.f a0).bind fun bt105 => (if bt105.2.2.2 = 0 then ((civil_many.f a1).bind fun t109 => (if t109 = 0 then (some (0, 0, 0, 2)) else ((civil_many.f a1).bind fun t110 => (some (a1, bt105.1, wrap64 ((wrap64 (Int.tdiv (wrap64 ((wrap64 (bt105.2.1 - 1)) * t110)) 12)) + 1), 0))))) else (some (0, 0, 0, bt105.2.2.2)))
set_option maxHeartbeats 8000000 in
set_option maxRecDepth 100000 in
theorem civil_Of.calls (a0 : Int) (a1 : Int) (r1 : Int) (r2 : Int) (r3 : Int) (r4 : Int) (w : World) (h : civil_Of.f a0 a1 = some (r1, r2, r3, r4)) :
    Calls Try.prog 28 #[.int .i64 a0, .int .i64 a1] w fun e w' => e = .returned (.tuple #[.agg #[.int .i64 r1, .int .i64 r2, .int .i64 r3], .int .i64 r4]) ∧ Below w.heap.size w w' := by
  have hu24 := Try.underlying24
  have HB := Aside0.mk (Below.refl w.heap.size w)
  have H : ((civil_Date.f a0).bind fun bt105 => (if bt105.2.2.2 = 0 then ((civil_many.f a1).bind fun t109 => (if t109 = 0 then (some (0, 0, 0, 2)) else ((civil_many.f a1).bind fun t110 => (some (a1, bt105.1, wrap64 ((wrap64 (Int.tdiv (wrap64 ((wrap64 (bt105.2.1 - 1)) * t110)) 12)) + 1), 0))))) else (some (0, 0, 0, bt105.2.2.2)))) = some (r1, r2, r3, r4) := h
  clear h
  replace H := Option.bind_eq_some_iff.mp H
  obtain ⟨⟨t105, t106, t107, t108⟩, A30, H⟩ := H
  replace H : (if t108 = 0 then ((civil_many.f a1).bind fun t109 => (if t109 = 0 then (some (0, 0, 0, 2)) else ((civil_many.f a1).bind fun t110 => (some (a1, t105, wrap64 ((wrap64 (Int.tdiv (wrap64 ((wrap64 (t106 - 1)) * t110)) 12)) + 1), 0))))) else (some (0, 0, 0, t108))) = some (r1, r2, r3, r4) := H
  have A3 := Aside0.mk A30
  clear A30
  by_cases c4 : t108 = 0
  · rw [if_pos c4] at H
    have c4b0 : (t108 == 0) = true := beq_iff_eq.mpr c4
    have c4b1 : (t108 != 0) = false := bne_eq_false_iff_eq.mpr c4
    clear c4
    replace H := Option.bind_eq_some_iff.mp H
    obtain ⟨t109, A50, H⟩ := H
    replace H : (if t109 = 0 then (some (0, 0, 0, 2)) else ((civil_many.f a1).bind fun t110 => (some (a1, t105, wrap64 ((wrap64 (Int.tdiv (wrap64 ((wrap64 (t106 - 1)) * t110)) 12)) + 1), 0)))) = some (r1, r2, r3, r4) := H
    have A5 := Aside0.mk A50
    clear A50
    by_cases c6 : t109 = 0
    · rw [if_pos c6] at H
      have c6b0 : (t109 == 0) = true := beq_iff_eq.mpr c6
      have c6b1 : (t109 != 0) = false := bne_eq_false_iff_eq.mpr c6
      clear c6
      simp only [Option.some.injEq, Prod.mk.injEq] at H
      obtain ⟨rfl, rfl, rfl, rfl⟩ := H
      go_enter Try.func28, Try.ntmps28
      go_wp2_with (first | ((with_reducible refine gate_dst (N := 4) rfl ?_); refine box_event ?hg (N := 4) ?hd (cs := #[.int .i64 0, .int .i64 0, .int .i64 0]) (t := 24) ?hr ?_; (case hd => rfl); (case hg => rfl); (case hr => first | (go_simp; done) | (go_simp; rfl)); intro gb104 hg w7 hbox hb; have n0_ := Aside0.mk (below_step (by repeat (first | (with_reducible first | exact HB.out | apply below_alloc | apply pw_below_drewN | apply below_drew1) | exact HB.out)) hb); have n1_ := Aside0.mk (hbox); have n2_ := Aside0.mk ((by rw [hg]; exact (below_size (by repeat (first | (with_reducible first | exact HB.out | apply below_alloc | apply pw_below_drewN | apply below_drew1) | exact HB.out))) : w.heap.size ≤ gb104)); have n3_ := Aside0.mk ((by rw [hg]; exact (below_size (by repeat (first | (with_reducible first | exact HB.out | apply below_alloc | apply pw_below_drewN | apply below_drew1) | exact HB.out))) : w.heap.size ≤ gb104)); clear HB; have HB := n0_; have BK104 := n1_; have GW104 := n2_; have GE104 := n3_; clear n0_ n1_ n2_ n3_; clear hb hbox hg) | ((with_reducible refine gate_callee (f := 39) rfl ?_); refine goesL_ (some 12) rfl rfl Try.func39 (by kernel_rfl) rfl #[.int .i64 a0] rfl (by (try simp only [List.map_toArray, List.map_cons, List.map_nil]); first | done | rfl | (simp only [List.length_drop, List.length_take]; rfl)) ?_; (with_reducible refine (civil_Date.calls a0 t105 t106 t107 t108 _ A3.out).mono ?_); rintro e w8 ⟨rfl, hb⟩; refine ⟨_, rfl, ?_⟩; have n0_ := Aside0.mk (blk_below (g := gb104) (o := .cells #[.int .i64 0, .int .i64 0, .int .i64 0] 24 (0, 0)) (by (with_reducible repeat (first | refine blk_drewN ?_ _ | refine blk_drew ?_ | refine blk_alloc ?_ _)); exact BK104.out) hb); have n1_ := Aside0.mk (below_step (by repeat (first | (with_reducible first | exact HB.out | apply below_alloc | apply pw_below_drewN | apply below_drew1 | refine below_set ?_ GE104.out) | exact HB.out)) hb); clear BK104; clear HB; have BK104 := n0_; have HB := n1_; clear n0_ n1_; (try clear hb); (try clear hb2); (try clear hk); (try clear hi)) | ((with_reducible refine gate_callee (f := 40) rfl ?_); refine goesL_ (some 24) rfl rfl Try.func40 (by kernel_rfl) rfl #[.int .i64 a1] rfl (by (try simp only [List.map_toArray, List.map_cons, List.map_nil]); first | done | rfl | (simp only [List.length_drop, List.length_take]; rfl)) ?_; (with_reducible refine (civil_many.calls a1 t109 _ A5.out).mono ?_); rintro e w' ⟨rfl, ⟨nd, rfl⟩⟩; refine ⟨_, rfl, ?_⟩; (try (rw [drewN_self w8]; generalize hq_ : World.drewN w8 _ = w8; have n0_ : Aside0 (w8.heap[gb104]? = some (.cells #[.int .i64 0, .int .i64 0, .int .i64 0] 24 (0, 0))) := ⟨by rw [← hq_]; exact (by (with_reducible repeat (first | refine blk_drewN ?_ _ | refine blk_drew ?_ | refine blk_alloc ?_ _)); exact BK104.out)⟩; have n1_ : Aside0 (Below w.heap.size w w8) := ⟨by rw [← hq_]; exact (by repeat (first | (with_reducible first | exact HB.out | apply below_alloc | apply pw_below_drewN | apply below_drew1 | refine below_set ?_ GE104.out) | exact HB.out))⟩; clear BK104 HB hq_; have BK104 := n0_; have HB := n1_; clear n0_ n1_)); have hcz9_0 : w8.cell? ⟨gb104, 0, none⟩ = some (.int .i64 0) := (blk_cell BK104.out 0).trans rfl; have hcz9_1 : w8.cell? ⟨gb104, 1, none⟩ = some (.int .i64 0) := (blk_cell BK104.out 1).trans rfl; have hcz9_2 : w8.cell? ⟨gb104, 2, none⟩ = some (.int .i64 0) := (blk_cell BK104.out 2).trans rfl; have hfz9_0 := blk_frozen BK104.out 0; have hfz9_1 := blk_frozen BK104.out 1; have hfz9_2 := blk_frozen BK104.out 2))
      refine bodyPost_ret (results_ct rfl _ _ gb104 24 #[.int .i64 0, .int .i64 0, .int .i64 0] (0, 0) _ rfl (by (with_reducible repeat (first | refine blk_drewN ?_ _ | refine blk_drew ?_ | refine blk_alloc ?_ _)); refine blk_put (cs := #[.int .i64 0, .int .i64 0, .int .i64 0]) ?_ 2 _ rfl; (with_reducible repeat (first | refine blk_drewN ?_ _ | refine blk_drew ?_ | refine blk_alloc ?_ _)); refine blk_put (cs := #[.int .i64 0, .int .i64 0, .int .i64 0]) ?_ 1 _ rfl; (with_reducible repeat (first | refine blk_drewN ?_ _ | refine blk_drew ?_ | refine blk_alloc ?_ _)); refine blk_put (cs := #[.int .i64 0, .int .i64 0, .int .i64 0]) ?_ 0 _ rfl; (with_reducible repeat (first | refine blk_drewN ?_ _ | refine blk_drew ?_ | refine blk_alloc ?_ _)); exact BK104.out) Try.underlying24 rfl (by kernel_rfl)) rfl ?_
      exact ⟨by first | rfl | (simp [errW_none, errW_some] <;> rfl) | (simp [*, errW_none, errW_some] <;> rfl), by repeat (first | (with_reducible first | exact HB.out | apply below_alloc | apply pw_below_drewN | apply below_drew1 | refine below_set ?_ GE104.out) | exact HB.out)⟩
    · rw [if_neg c6] at H
      have c6b0 : (t109 == 0) = false := beq_eq_false_iff_ne.mpr c6
      have c6b1 : (t109 != 0) = true := bne_iff_ne.mpr c6
      replace H := Option.bind_eq_some_iff.mp H
      obtain ⟨t110, A100, H⟩ := H
      replace H : (some (a1, t105, wrap64 ((wrap64 (Int.tdiv (wrap64 ((wrap64 (t106 - 1)) * t110)) 12)) + 1), 0)) = some (r1, r2, r3, r4) := H
      have A10 := Aside0.mk A100
      clear A100
      simp only [Option.some.injEq, Prod.mk.injEq] at H
      obtain ⟨rfl, rfl, rfl, rfl⟩ := H
      go_enter Try.func28, Try.ntmps28
      go_wp2_with (first | ((with_reducible refine gate_dst (N := 4) rfl ?_); refine box_event ?hg (N := 4) ?hd (cs := #[.int .i64 0, .int .i64 0, .int .i64 0]) (t := 24) ?hr ?_; (case hd => rfl); (case hg => rfl); (case hr => first | (go_simp; done) | (go_simp; rfl)); intro gb104 hg w11 hbox hb; have n0_ := Aside0.mk (below_step (by repeat (first | (with_reducible first | exact HB.out | apply below_alloc | apply pw_below_drewN | apply below_drew1) | exact HB.out)) hb); have n1_ := Aside0.mk (hbox); have n2_ := Aside0.mk ((by rw [hg]; exact (below_size (by repeat (first | (with_reducible first | exact HB.out | apply below_alloc | apply pw_below_drewN | apply below_drew1) | exact HB.out))) : w.heap.size ≤ gb104)); have n3_ := Aside0.mk ((by rw [hg]; exact (below_size (by repeat (first | (with_reducible first | exact HB.out | apply below_alloc | apply pw_below_drewN | apply below_drew1) | exact HB.out))) : w.heap.size ≤ gb104)); clear HB; have HB := n0_; have BK104 := n1_; have GW104 := n2_; have GE104 := n3_; clear n0_ n1_ n2_ n3_; clear hb hbox hg) | ((with_reducible refine gate_callee (f := 39) rfl ?_); refine goesL_ (some 12) rfl rfl Try.func39 (by kernel_rfl) rfl #[.int .i64 a0] rfl (by (try simp only [List.map_toArray, List.map_cons, List.map_nil]); first | done | rfl | (simp only [List.length_drop, List.length_take]; rfl)) ?_; (with_reducible refine (civil_Date.calls a0 t105 t106 t107 t108 _ A3.out).mono ?_); rintro e w12 ⟨rfl, hb⟩; refine ⟨_, rfl, ?_⟩; have n0_ := Aside0.mk (blk_below (g := gb104) (o := .cells #[.int .i64 0, .int .i64 0, .int .i64 0] 24 (0, 0)) (by (with_reducible repeat (first | refine blk_drewN ?_ _ | refine blk_drew ?_ | refine blk_alloc ?_ _)); exact BK104.out) hb); have n1_ := Aside0.mk (below_step (by repeat (first | (with_reducible first | exact HB.out | apply below_alloc | apply pw_below_drewN | apply below_drew1 | refine below_set ?_ GE104.out) | exact HB.out)) hb); clear BK104; clear HB; have BK104 := n0_; have HB := n1_; clear n0_ n1_; (try clear hb); (try clear hb2); (try clear hk); (try clear hi)) | ((with_reducible refine gate_callee (f := 40) rfl ?_); refine goesL_ (some 24) rfl rfl Try.func40 (by kernel_rfl) rfl #[.int .i64 a1] rfl (by (try simp only [List.map_toArray, List.map_cons, List.map_nil]); first | done | rfl | (simp only [List.length_drop, List.length_take]; rfl)) ?_; (with_reducible refine (civil_many.calls a1 t109 _ A5.out).mono ?_); rintro e w' ⟨rfl, ⟨nd, rfl⟩⟩; refine ⟨_, rfl, ?_⟩; (try (rw [drewN_self w12]; generalize hq_ : World.drewN w12 _ = w12; have n0_ : Aside0 (w12.heap[gb104]? = some (.cells #[.int .i64 0, .int .i64 0, .int .i64 0] 24 (0, 0))) := ⟨by rw [← hq_]; exact (by (with_reducible repeat (first | refine blk_drewN ?_ _ | refine blk_drew ?_ | refine blk_alloc ?_ _)); exact BK104.out)⟩; have n1_ : Aside0 (Below w.heap.size w w12) := ⟨by rw [← hq_]; exact (by repeat (first | (with_reducible first | exact HB.out | apply below_alloc | apply pw_below_drewN | apply below_drew1 | refine below_set ?_ GE104.out) | exact HB.out))⟩; clear BK104 HB hq_; have BK104 := n0_; have HB := n1_; clear n0_ n1_))) | ((with_reducible refine gate_callee (f := 40) rfl ?_); refine goesL_ (some 32) rfl rfl Try.func40 (by kernel_rfl) rfl #[.int .i64 a1] rfl (by (try simp only [List.map_toArray, List.map_cons, List.map_nil]); first | done | rfl | (simp only [List.length_drop, List.length_take]; rfl)) ?_; (with_reducible refine (civil_many.calls a1 t110 _ A10.out).mono ?_); rintro e w' ⟨rfl, ⟨nd, rfl⟩⟩; refine ⟨_, rfl, ?_⟩; (try (rw [drewN_self w12]; generalize hq_ : World.drewN w12 _ = w12; have n0_ : Aside0 (w12.heap[gb104]? = some (.cells #[.int .i64 0, .int .i64 0, .int .i64 0] 24 (0, 0))) := ⟨by rw [← hq_]; exact (by (with_reducible repeat (first | refine blk_drewN ?_ _ | refine blk_drew ?_ | refine blk_alloc ?_ _)); exact BK104.out)⟩; have n1_ : Aside0 (Below w.heap.size w w12) := ⟨by rw [← hq_]; exact (by repeat (first | (with_reducible first | exact HB.out | apply below_alloc | apply pw_below_drewN | apply below_drew1 | refine below_set ?_ GE104.out) | exact HB.out))⟩; clear BK104 HB hq_; have BK104 := n0_; have HB := n1_; clear n0_ n1_)); have hcz13_0 : w12.cell? ⟨gb104, 0, none⟩ = some (.int .i64 0) := (blk_cell BK104.out 0).trans rfl; have hcz13_1 : w12.cell? ⟨gb104, 1, none⟩ = some (.int .i64 0) := (blk_cell BK104.out 1).trans rfl; have hcz13_2 : w12.cell? ⟨gb104, 2, none⟩ = some (.int .i64 0) := (blk_cell BK104.out 2).trans rfl; have hfz13_0 := blk_frozen BK104.out 0; have hfz13_1 := blk_frozen BK104.out 1; have hfz13_2 := blk_frozen BK104.out 2))
      refine bodyPost_ret (results_ct rfl _ _ gb104 24 #[.int .i64 a1, .int .i64 t105, .int .i64 (wrap64 ((wrap64 (Int.tdiv (wrap64 ((wrap64 (t106 - 1)) * t110)) 12)) + 1))] (0, 0) _ rfl (by (with_reducible repeat (first | refine blk_drewN ?_ _ | refine blk_drew ?_ | refine blk_alloc ?_ _)); refine blk_put (cs := #[.int .i64 a1, .int .i64 t105, .int .i64 0]) ?_ 2 _ rfl; (with_reducible repeat (first | refine blk_drewN ?_ _ | refine blk_drew ?_ | refine blk_alloc ?_ _)); refine blk_put (cs := #[.int .i64 a1, .int .i64 0, .int .i64 0]) ?_ 1 _ rfl; (with_reducible repeat (first | refine blk_drewN ?_ _ | refine blk_drew ?_ | refine blk_alloc ?_ _)); refine blk_put (cs := #[.int .i64 0, .int .i64 0, .int .i64 0]) ?_ 0 _ rfl; (with_reducible repeat (first | refine blk_drewN ?_ _ | refine blk_drew ?_ | refine blk_alloc ?_ _)); exact BK104.out) Try.underlying24 rfl (by kernel_rfl)) rfl ?_
      exact ⟨by first | rfl | (simp [errW_none, errW_some] <;> rfl) | (simp [*, errW_none, errW_some] <;> rfl), by repeat (first | (with_reducible first | exact HB.out | apply below_alloc | apply pw_below_drewN | apply below_drew1 | refine below_set ?_ GE104.out) | exact HB.out)⟩
  · rw [if_neg c4] at H
    have c4b0 : (t108 == 0) = false := beq_eq_false_iff_ne.mpr c4
    have c4b1 : (t108 != 0) = true := bne_iff_ne.mpr c4
    simp only [Option.some.injEq, Prod.mk.injEq] at H
    obtain ⟨rfl, rfl, rfl, rfl⟩ := H
    go_enter Try.func28, Try.ntmps28
    go_wp2_with (first | ((with_reducible refine gate_dst (N := 4) rfl ?_); refine box_event ?hg (N := 4) ?hd (cs := #[.int .i64 0, .int .i64 0, .int .i64 0]) (t := 24) ?hr ?_; (case hd => rfl); (case hg => rfl); (case hr => first | (go_simp; done) | (go_simp; rfl)); intro gb104 hg w14 hbox hb; have n0_ := Aside0.mk (below_step (by repeat (first | (with_reducible first | exact HB.out | apply below_alloc | apply pw_below_drewN | apply below_drew1) | exact HB.out)) hb); have n1_ := Aside0.mk (hbox); have n2_ := Aside0.mk ((by rw [hg]; exact (below_size (by repeat (first | (with_reducible first | exact HB.out | apply below_alloc | apply pw_below_drewN | apply below_drew1) | exact HB.out))) : w.heap.size ≤ gb104)); have n3_ := Aside0.mk ((by rw [hg]; exact (below_size (by repeat (first | (with_reducible first | exact HB.out | apply below_alloc | apply pw_below_drewN | apply below_drew1) | exact HB.out))) : w.heap.size ≤ gb104)); clear HB; have HB := n0_; have BK104 := n1_; have GW104 := n2_; have GE104 := n3_; clear n0_ n1_ n2_ n3_; clear hb hbox hg) | ((with_reducible refine gate_callee (f := 39) rfl ?_); refine goesL_ (some 12) rfl rfl Try.func39 (by kernel_rfl) rfl #[.int .i64 a0] rfl (by (try simp only [List.map_toArray, List.map_cons, List.map_nil]); first | done | rfl | (simp only [List.length_drop, List.length_take]; rfl)) ?_; (with_reducible refine (civil_Date.calls a0 t105 t106 t107 t108 _ A3.out).mono ?_); rintro e w15 ⟨rfl, hb⟩; refine ⟨_, rfl, ?_⟩; have n0_ := Aside0.mk (blk_below (g := gb104) (o := .cells #[.int .i64 0, .int .i64 0, .int .i64 0] 24 (0, 0)) (by (with_reducible repeat (first | refine blk_drewN ?_ _ | refine blk_drew ?_ | refine blk_alloc ?_ _)); exact BK104.out) hb); have n1_ := Aside0.mk (below_step (by repeat (first | (with_reducible first | exact HB.out | apply below_alloc | apply pw_below_drewN | apply below_drew1 | refine below_set ?_ GE104.out) | exact HB.out)) hb); clear BK104; clear HB; have BK104 := n0_; have HB := n1_; clear n0_ n1_; (try clear hb); (try clear hb2); (try clear hk); (try clear hi); have hcz16_0 : w15.cell? ⟨gb104, 0, none⟩ = some (.int .i64 0) := (blk_cell BK104.out 0).trans rfl; have hcz16_1 : w15.cell? ⟨gb104, 1, none⟩ = some (.int .i64 0) := (blk_cell BK104.out 1).trans rfl; have hcz16_2 : w15.cell? ⟨gb104, 2, none⟩ = some (.int .i64 0) := (blk_cell BK104.out 2).trans rfl; have hfz16_0 := blk_frozen BK104.out 0; have hfz16_1 := blk_frozen BK104.out 1; have hfz16_2 := blk_frozen BK104.out 2))
    refine bodyPost_ret (results_ct rfl _ _ gb104 24 #[.int .i64 0, .int .i64 0, .int .i64 0] (0, 0) _ rfl (by (with_reducible repeat (first | refine blk_drewN ?_ _ | refine blk_drew ?_ | refine blk_alloc ?_ _)); refine blk_put (cs := #[.int .i64 0, .int .i64 0, .int .i64 0]) ?_ 2 _ rfl; (with_reducible repeat (first | refine blk_drewN ?_ _ | refine blk_drew ?_ | refine blk_alloc ?_ _)); refine blk_put (cs := #[.int .i64 0, .int .i64 0, .int .i64 0]) ?_ 1 _ rfl; (with_reducible repeat (first | refine blk_drewN ?_ _ | refine blk_drew ?_ | refine blk_alloc ?_ _)); refine blk_put (cs := #[.int .i64 0, .int .i64 0, .int .i64 0]) ?_ 0 _ rfl; (with_reducible repeat (first | refine blk_drewN ?_ _ | refine blk_drew ?_ | refine blk_alloc ?_ _)); exact BK104.out) Try.underlying24 rfl (by kernel_rfl)) rfl ?_
    exact ⟨by first | rfl | (simp [errW_none, errW_some] <;> rfl) | (simp [*, errW_none, errW_some] <;> rfl), by repeat (first | (with_reducible first | exact HB.out | apply below_alloc | apply pw_below_drewN | apply below_drew1 | refine below_set ?_ GE104.out) | exact HB.out)⟩
end Go.Proofs.Ytmgfaoomdpgbhaa.Print
namespace Go.Proofs.Ytmgfaoomdpgbhaa.Print
open Go.RowKit Go.Proofs.YtmgfaoomdpgbhaaW.PrintWords Go.Proofs.YtmgfaoomdpgbhaaW.PrintLast Go.Proofs.YtmgfaoomdpgbhaaW.PrintMore
set_option linter.unusedVariables false
set_option linter.unusedSimpArgs false
theorem date_bd (n : Int) (h : (dateV n).2.2.2 = 0) : (0 ≤ n ∧ n ≤ 2932896) ∧ (dateV n).1 = yearV n ∧ (dateV n).2.1 = (monthV (leapB (yearV n)) (n - begV (yearV n)) : Int) := by
  unfold dateV at h ⊢
  by_cases hr : 0 ≤ n ∧ n ≤ 2932896
  · rw [if_pos hr] at h ⊢; exact ⟨hr, rfl, rfl⟩
  · rw [if_neg hr] at h; simp at h
def ofV (n kd : Int) : Int × Int × Int × Int :=
  if (dateV n).2.2.2 = 0 then (if manyV kd = 0 then (0, 0, 0, 2) else (kd, (dateV n).1, ((dateV n).2.1 - 1) / eachV kd + 1, 0)) else (0, 0, 0, (dateV n).2.2.2)
theorem month_of (n : Int) (h : (dateV n).2.2.2 = 0) : 1 ≤ (dateV n).2.1 ∧ (dateV n).2.1 ≤ 12 ∧ 1970 ≤ (dateV n).1 ∧ (dateV n).1 ≤ 9999 := by
  obtain ⟨hr, h1, h2⟩ := date_bd n h
  have ys := year_spec n hr.1 hr.2
  have hs := beg_succ (yearV n) ys.1 ys.2.1
  have hlast : n - begV (yearV n) < cumV (leapB (yearV n)) 12 := by
    rw [cum_last]; unfold daysV at hs; omega
  have ms := month_spec (leapB (yearV n)) (n - begV (yearV n)) (by omega) hlast
  rw [h1, h2]; omega
theorem each_many (m kd : Int) (h1 : 1 ≤ m) (h2 : m ≤ 12) (h : manyV kd ≠ 0) : (m - 1) * manyV kd / 12 = (m - 1) / eachV kd ∧ 0 ≤ (m - 1) * manyV kd ∧ (m - 1) * manyV kd ≤ 132 ∧ 0 ≤ (m - 1) / eachV kd ∧ (m - 1) / eachV kd ≤ 11 := by
  rcases many_cases kd with ⟨_, e2, e3⟩ | ⟨_, e2, e3⟩ | ⟨_, e2, e3⟩ | ⟨_, _, _, e2⟩
  · rw [e2, e3]; omega
  · rw [e2, e3]; omega
  · rw [e2, e3]; omega
  · exact absurd e2 h
theorem pro_of (n kd : Int) : civil_Of.f n kd = some (ofV n kd) := by
  unfold civil_Of.f ofV
  rw [pro_date]
  simp only [Option.bind_some, pro_many]
  by_cases h : (dateV n).2.2.2 = 0
  · rw [if_pos h, if_pos h]
    have hm := month_of n h
    by_cases hk : manyV kd = 0
    · rw [if_pos hk, if_pos hk]
    · have he := each_many (dateV n).2.1 kd hm.1 hm.2.1 hk
      rw [if_neg hk, if_neg hk, cw64 (x := (dateV n).2.1 - 1) (by omega) (by omega), cw64 (x := ((dateV n).2.1 - 1) * manyV kd) (by omega) (by omega), Int.tdiv_eq_ediv_of_nonneg he.2.1, he.1, cw64 (x := ((dateV n).2.1 - 1) / eachV kd) (by omega) (by omega), cw64 (by omega) (by omega)]
  · rw [if_neg h, if_neg h]
theorem ref_of (n kd : Int) : Ev (fun k => octroiref04_Of.f k n kd) (ofV n kd) := by
  unfold octroiref04_Of.f
  refine cevb (ref_date n) (β := Int × Int × Int × Int) (f := fun bt261 k => (if bt261.2.2.2 = 0 then ((octroiref04_Many.f kd).bind fun t265 => (if t265 = 0 then (some (0, 0, 0, 2)) else ((octroiref04_Many.f kd).bind fun t266 => (if t266 = 0 then (none) else (if (wrap64 (Int.tdiv (12 : Int) t266)) = 0 then (none) else (some (kd, bt261.1, wrap64 ((wrap64 (Int.tdiv (wrap64 (bt261.2.1 - 1)) (wrap64 (Int.tdiv (12 : Int) t266)))) + 1), 0))))))) else (some (0, 0, 0, bt261.2.2.2)))) (cevn (fun k => ?_))
  unfold ofV
  simp only [Option.bind_some, ref_many]
  by_cases h : (dateV n).2.2.2 = 0
  · rw [if_pos h, if_pos h]
    have hm := month_of n h
    by_cases hk : manyV kd = 0
    · rw [if_pos hk, if_pos hk]
    · have he := each_many (dateV n).2.1 kd hm.1 hm.2.1 hk
      have hb := each_bd kd
      rw [if_neg hk, if_neg hk, if_neg hk, each_tdiv kd hk, if_neg (by omega), cw64 (x := (dateV n).2.1 - 1) (by omega) (by omega), Int.tdiv_eq_ediv_of_nonneg (by omega), cw64 (x := ((dateV n).2.1 - 1) / eachV kd) (by omega) (by omega), cw64 (by omega) (by omega)]
  · rw [if_neg h, if_neg h]
theorem cum_le (b : Bool) (x y : Nat) (h : x ≤ y) (hy : y ≤ 12) : cumV b x ≤ cumV b y := by
  have := cum_mono b x (y - x) (by omega)
  rw [show x + (y - x) = y by omega] at this
  omega
theorem of_within (n kd : Int) (h : (ofV n kd).2.2.2 = 0) : withinV (ofV n kd).1 (ofV n kd).2.1 (ofV n kd).2.2.1 n = true := by
  unfold ofV at h ⊢
  by_cases hd : (dateV n).2.2.2 = 0
  · rw [if_pos hd] at h ⊢
    by_cases hk : manyV kd = 0
    · rw [if_pos hk] at h; simp at h
    · rw [if_neg hk]
      simp only []
      obtain ⟨hr, h1, h2⟩ := date_bd n hd
      have hm := month_of n hd
      have he := each_many (dateV n).2.1 kd hm.1 hm.2.1 hk
      have ys := year_spec n hr.1 hr.2
      have hs := beg_succ (yearV n) ys.1 ys.2.1
      have hlast : n - begV (yearV n) < cumV (leapB (yearV n)) 12 := by
        rw [cum_last]; unfold daysV at hs; omega
      have ms := month_spec (leapB (yearV n)) (n - begV (yearV n)) (by omega) hlast
      have hg : goodB kd (dateV n).1 (((dateV n).2.1 - 1) / eachV kd + 1) = true := by
        rw [goodB_iff]
        refine ⟨hm.2.2, by omega, ?_⟩
        rcases many_cases kd with ⟨_, e2, e3⟩ | ⟨_, e2, e3⟩ | ⟨_, e2, e3⟩ | ⟨_, _, _, e2⟩
        · rw [e2, e3]; omega
        · rw [e2, e3]; omega
        · rw [e2, e3]; omega
        · exact absurd e2 hk
      have gm := good_months hg
      have hin : (((dateV n).2.1 - 1) / eachV kd + 1 - 1) * eachV kd + 1 ≤ (dateV n).2.1 ∧ (dateV n).2.1 ≤ (((dateV n).2.1 - 1) / eachV kd + 1) * eachV kd := by
        rcases many_cases kd with ⟨_, e2, e3⟩ | ⟨_, e2, e3⟩ | ⟨_, e2, e3⟩ | ⟨_, _, _, e2⟩
        · rw [e3]; omega
        · rw [e3]; omega
        · rw [e3]; omega
        · exact absurd e2 hk
      unfold withinV firstV lastV
      rw [if_pos hg, if_pos hg]
      generalize ((dateV n).2.1 - 1) / eachV kd + 1 = i at *
      have l1 := len_in_bd (dateV n).1 ((i - 1) * eachV kd + 1) gm.1 (by omega) (by omega)
      have l2 := len_in_bd (dateV n).1 (i * eachV kd) gm.1 (by omega) (by omega)
      rw [day_ok _ _ 1 (by omega), day_ok _ _ (lenV (dateV n).1 (i * eachV kd)) (by omega)]
      rw [lenV_12 _ _ gm.1 (by omega) (by omega)] at l2 ⊢
      generalize hp : (i - 1) * eachV kd = p at *
      generalize hq : i * eachV kd = q at *
      obtain ⟨a, rfl⟩ := Int.eq_ofNat_of_zero_le (show 0 ≤ p by omega)
      obtain ⟨b, rfl⟩ := Int.eq_ofNat_of_zero_le (show 0 ≤ q by omega)
      rw [len12_eq _ b (by omega) (by omega)]
      rw [h1, h2] at *
      have c1 := cum_le (leapB (yearV n)) a (monthV (leapB (yearV n)) (n - begV (yearV n)) - 1) (by omega) (by omega)
      have c2 := cum_le (leapB (yearV n)) (monthV (leapB (yearV n)) (n - begV (yearV n))) b (by omega) (by omega)
      rw [show ((a : Int) + 1).toNat - 1 = a by omega, Int.toNat_natCast]
      simp only [Bool.and_eq_true, decide_eq_true_eq]
      refine ⟨trivial, ?_, ?_⟩
      · omega
      · omega
  · rw [if_neg hd] at h; exact absurd h hd
theorem first_err (kd y i : Int) : (firstV kd y i).2 = if goodB kd y i = true then 0 else 2 := by
  unfold firstV
  cases h : goodB kd y i with
  | false => simp
  | true =>
    have gm := good_months h
    have l1 := len_in_bd y ((i - 1) * eachV kd + 1) gm.1 (by omega) (by omega)
    rw [if_pos rfl, if_pos rfl, day_ok _ _ 1 (by omega)]
end Go.Proofs.Ytmgfaoomdpgbhaa.Print
namespace Go.Proofs.Ytmgfaoomdpgbhaa.Print
open Go.RowKit Go.Proofs.YtmgfaoomdpgbhaaW.PrintWords Go.Proofs.YtmgfaoomdpgbhaaW.PrintLast Go.Proofs.YtmgfaoomdpgbhaaW.PrintMore
set_option linter.unusedVariables false
set_option linter.unusedSimpArgs false
theorem q4 {a b c d b' c' : Int} (h1 : b = b') (h2 : c = c') : (a, b, c, d) = (a, b', c', d) := by rw [h1, h2]
end Go.Proofs.Ytmgfaoomdpgbhaa.Print
namespace Go.Proofs.Ytmgfaoomdpgbhaa.Ax
open Go Go.RowKit Go.Proofs.Ytmgfaoomdpgbhaa.Print
set_option linter.unusedVariables false
set_option linter.unusedSimpArgs false
theorem mixed : Try.prog.follows .mixedOrders = true := by kernel_rfl
def cn0 : Nat → St → Option St := fun _ σ => some σ
theorem cn0_ok (B' : Nat → Prop) (w : Base) (n : Nat) : CnOk cn0 B' w n := fun k σ σ' h => by cases h; exact ⟨fun h => h, fun ρ a w hR => ⟨ρ, hR⟩⟩
def cGood : Con := fun args _ => match args with
  | [.agg [.v (.int .i64 k), .v (.int .i64 y), .v (.int .i64 i)]] => .ret ⟨.v (.bool (goodB k y i)), []⟩
  | _ => .fail
theorem cGood_ok : ∀ B, ConOk Try.prog B 41 cGood := by
  intro B args ρ h w lo out ids hr hrh hfr hfa up
  unfold cGood at hr
  split at hr
  · rename_i k y i
    cases hr
    exact gives_same (s := .v (.bool (goodB k y i))) (fn := Try.f41) Try.func41 (by kernel_rfl) (by kernel_rfl) hrh up (civil_Good.calls k y i _ w (pro_good k y i))
  · cases hr
def cOfC : Con := fun args _ => match args with
  | [.v (.int .i64 n), .v (.int .i64 kd)] => .ret ⟨.tup [.agg [.v (.int .i64 (ofV n kd).1), .v (.int .i64 (ofV n kd).2.1), .v (.int .i64 (ofV n kd).2.2.1)], .v (.int .i64 (ofV n kd).2.2.2)], []⟩
  | _ => .fail
theorem cOfC_ok : ∀ B, ConOk Try.prog B 28 cOfC := by
  intro B args ρ h w lo out ids hr hrh hfr hfa up
  unfold cOfC at hr
  split at hr
  · rename_i n kd
    cases hr
    exact gives_same (s := .tup [.agg [.v (.int .i64 (ofV n kd).1), .v (.int .i64 (ofV n kd).2.1), .v (.int .i64 (ofV n kd).2.2.1)], .v (.int .i64 (ofV n kd).2.2.2)]) (fn := Try.f28) Try.func28 (by kernel_rfl) (by kernel_rfl) hrh up (civil_Of.calls n kd _ _ _ _ w (pro_of n kd))
  · cases hr
def rngB (b : Int) : Bool := decide (-9223372036854775808 ≤ b) && decide (b ≤ 9223372036854775807)
theorem rngB_iff (b : Int) : rngB b = true ↔ -9223372036854775808 ≤ b ∧ b ≤ 9223372036854775807 := by simp [rngB]
def cNext : Con := fun args _ => match args with
  | [.agg [.v (.int .i64 k), .v (.int .i64 y), .v (.int .i64 i)], .v (.int .i64 b)] => .br (rngB b) (.ret ⟨.tup [.agg [.v (.int .i64 (nextV k y i b).1), .v (.int .i64 (nextV k y i b).2.1), .v (.int .i64 (nextV k y i b).2.2.1)], .v (.int .i64 (nextV k y i b).2.2.2)], []⟩) .fail
  | _ => .fail
theorem cNext_ok : ∀ B, ConOk Try.prog B 43 cNext := by
  intro B args ρ h w lo out ids hr hrh hfr hfa up
  unfold cNext at hr
  split at hr
  · rename_i k y i b
    obtain ⟨hb, hr⟩ := br_run (h := h) hr
    cases hr
    exact gives_same (s := .tup [.agg [.v (.int .i64 (nextV k y i b).1), .v (.int .i64 (nextV k y i b).2.1), .v (.int .i64 (nextV k y i b).2.2.1)], .v (.int .i64 (nextV k y i b).2.2.2)]) (fn := Try.f43) Try.func43 (by kernel_rfl) (by kernel_rfl) hrh up (civil_Next.calls k y i b _ _ _ _ w (pro_next k y i b ((rngB_iff b).1 hb)))
  · cases hr
def clkC (k y i a b : Int) : List SV := [.v (.int .i64 k), .v (.int .i64 y), .v (.int .i64 i), .v (.int .i64 a), .v (.int .i64 b)]
def clkR (id : Nat) (φ : Int → Int → Int → Int → Int → Rd Out) : Rd Out := .obj id fun o => match o with
  | .cells 58 [.v (.int .i64 k), .v (.int .i64 y), .v (.int .i64 i), .v (.int .i64 a), .v (.int .i64 b)] => φ k y i a b
  | .ro 58 [.v (.int .i64 k), .v (.int .i64 y), .v (.int .i64 i), .v (.int .i64 a), .v (.int .i64 b)] => φ k y i a b
  | _ => .fail
theorem clkR_run {id : Nat} {φ : Int → Int → Int → Int → Int → Rd Out} {h : Hp} {out : Out} {ids : List Nat} (hr : (clkR id φ).run h = some (out, ids)) :
    ∃ k y i a b o ids', look h id = some o ∧ (o = .cells 58 (clkC k y i a b) ∨ o = .ro 58 (clkC k y i a b)) ∧ (φ k y i a b).run h = some (out, ids') := by
  unfold clkR at hr
  obtain ⟨o, ids', ho, hr⟩ := obj_run hr
  split at hr
  · exact ⟨_, _, _, _, _, _, ids', ho, .inl rfl, hr⟩
  · exact ⟨_, _, _, _, _, _, ids', ho, .inr rfl, hr⟩
  · cases hr
def clkW (id : Nat) (φ : Int → Int → Int → Int → Int → Rd Out) : Rd Out := .obj id fun o => match o with
  | .cells 58 [.v (.int .i64 k), .v (.int .i64 y), .v (.int .i64 i), .v (.int .i64 a), .v (.int .i64 b)] => φ k y i a b
  | _ => .fail
theorem clkW_run {id : Nat} {φ : Int → Int → Int → Int → Int → Rd Out} {h : Hp} {out : Out} {ids : List Nat} (hr : (clkW id φ).run h = some (out, ids)) :
    ∃ k y i a b ids', look h id = some (.cells 58 (clkC k y i a b)) ∧ (φ k y i a b).run h = some (out, ids') := by
  unfold clkW at hr
  obtain ⟨o, ids', ho, hr⟩ := obj_run hr
  split at hr
  · exact ⟨_, _, _, _, _, ids', ho, hr⟩
  · cases hr
def C0 : FuncId → Option Con := fun _ => none
theorem C0_ok : ∀ B' g φ, C0 g = some φ → ConOk Try.prog B' g φ := fun _ _ _ h => by cases h
def noneB (k y i : Int) : Bool := k == 0 && (y == 0 && (i == 0 && true))
def cNone : Con := fun args _ => match args with
  | [.v (.pointer none)] => .ret ⟨.v (.bool true), []⟩
  | [.ptr id 0] => clkR id fun k y i a b => .ret ⟨.v (.bool (noneB k y i)), []⟩
  | _ => .fail
theorem none_nil : evFn Try.prog C0 cn0 4 Try.f30 [.v (.pointer none)] [] 0 K1 = some (.v (.bool true)) := by kernel_rfl
theorem none_ev (k y i a b : Int) : evFn Try.prog C0 cn0 4 Try.f30 [.ptr 0 0] [(0, .ro 58 (clkC k y i a b))] 1 K1 = some (.v (.bool (noneB k y i))) := by kernel_rfl
theorem cNone_ok (B) : ConOk Try.prog B 30 cNone := by
  intro args ρ h w lo out ids hr hrh hfr hfa up
  unfold cNone at hr
  split at hr
  · cases hr
    have := con_reads (B := B) mixed Try.func30 (by kernel_rfl) rfl C0_ok (fun B' w => cn0_ok B' w _) [.v (.pointer none)] (fun i => i) [] 0 _ K1_spec none_nil ρ h w lo hrh up rfl (fun i oc hi => by cases hi) (fun i oc hi => by cases hi)
    exact this
  · rename_i id
    obtain ⟨k, y, i, a, b, o, ids', ho, hk, hr⟩ := clkR_run hr
    cases hr
    exact con_ro1 mixed Try.func30 (by kernel_rfl) (by kernel_rfl) C0_ok (fun B' w => cn0_ok B' w _) rfl rfl (none_ev k y i a b) hrh up ho hk
  · cases hr
def eachC (k : Int) : Int := bif k == 1 then 12 else 4
def cEach : Con := fun args _ => match args with
  | [.ptr id 0] => clkR id fun k y i a b => .ret ⟨.v (.int .i64 (eachC k)), []⟩
  | _ => .fail
theorem each_tree (k y i a b : Int) : evFn Try.prog C0 cn0 4 Try.f42 [.ptr 0 0] [(0, .ro 58 (clkC k y i a b))] 1 K1 = sel (k == 1) (some (.v (.int .i64 12))) (some (.v (.int .i64 4))) := by kernel_rfl
theorem cEach_ok (B) : ConOk Try.prog B 42 cEach := by
  intro args ρ h w lo out ids hr hrh hfr hfa up
  unfold cEach at hr
  split at hr
  · rename_i id
    obtain ⟨k, y, i, a, b, o, ids', ho, hk, hr⟩ := clkR_run hr
    cases hr
    refine con_ro1 (F := 4) mixed Try.func42 (by kernel_rfl) (by kernel_rfl) C0_ok (fun B' w => cn0_ok B' w _) rfl rfl (r := .v (.int .i64 (eachC k))) ?_ hrh up ho hk
    rw [each_tree]
    unfold eachC
    cases (k == 1) <;> rfl
  · cases hr
def CClk : FuncId → Option Con
  | 41 => some cGood
  | 28 => some cOfC
  | 43 => some cNext
  | 30 => some cNone
  | 42 => some cEach
  | _ => none
theorem CClk_ok : ∀ B' g φ, CClk g = some φ → ConOk Try.prog B' g φ := by
  intro B' g φ h
  unfold CClk at h
  split at h
  · cases h; exact cGood_ok B'
  · cases h; exact cOfC_ok B'
  · cases h; exact cNext_ok B'
  · cases h; exact cNone_ok B'
  · cases h; exact cEach_ok B'
  · cases h
end Go.Proofs.Ytmgfaoomdpgbhaa.Ax
namespace Go.Proofs.Ytmgfaoomdpgbhaa.Ax
open Go Go.RowKit Go.Proofs.Ytmgfaoomdpgbhaa.Print
set_option linter.unusedVariables false
set_option linter.unusedSimpArgs false
theorem con_nil {f : FuncId} {fn : Func} {C : FuncId → Option Con} {B : Nat → Prop} {ρ : Rho} {h : Hp} {w : World} {lo : Nat} (hf : Try.prog.funcs[f]? = some fn) (hname : (fn.name == "runtime.NumGoroutine") = false) (hbody : fn.body.isSome = true)
    (hC : ∀ B' g φ, C g = some φ → ConOk Try.prog B' g φ) {args : List SV} {r : SV} (ha : ltL 0 args = true) (hev : evFn Try.prog C cn0 4 fn args [] 0 K1 = some r) (hr : HR B ρ h w) (up : ∀ b, w.heap.size ≤ b → B b) :
    CallGives Try.prog f (denL ρ args).toArray w fun v w' => ∃ ρ', Made B ρ h w lo (lo + wide) ⟨r, []⟩ ρ' v w' := by
  obtain ⟨c0, hbody⟩ := Option.isSome_iff_exists.1 hbody
  have := con_reads (B := B) mixed hf hname hbody hC (fun B' w => cn0_ok B' w _) args (fun i => i) [] 0 r K1_spec hev ρ h w lo hr up ha (fun i oc hi => by cases hi) (fun i oc hi => by cases hi)
  rwa [renL_id] at this
def placeV (k y i K Y I : Int) : Int := bif noneB k y i then -1 else bif !goodB K Y I then -1 else bif K != k then -1 else IntKind.i64.wrap (IntKind.i64.wrap (IntKind.i64.wrap (IntKind.i64.wrap (Y - y) * eachC k) + I) - i)
def cPlace : Con := fun args _ => match args with
  | [.v (.pointer none), .agg [.v (.int .i64 K), .v (.int .i64 Y), .v (.int .i64 I)]] => .ret ⟨.v (.int .i64 (-1)), []⟩
  | [.ptr id 0, .agg [.v (.int .i64 K), .v (.int .i64 Y), .v (.int .i64 I)]] => clkR id fun k y i a b => .ret ⟨.v (.int .i64 (placeV k y i K Y I)), []⟩
  | _ => .fail
theorem place_nil (K Y I : Int) : evFn Try.prog CClk cn0 4 Try.f29 [.v (.pointer none), .agg [.v (.int .i64 K), .v (.int .i64 Y), .v (.int .i64 I)]] [] 0 K1 = some (.v (.int .i64 (-1))) := by kernel_rfl
theorem place_tree (k y i a b K Y I : Int) : evFn Try.prog CClk cn0 4 Try.f29 [.ptr 0 0, .agg [.v (.int .i64 K), .v (.int .i64 Y), .v (.int .i64 I)]] [(0, .ro 58 (clkC k y i a b))] 1 K1 =
    sel (noneB k y i) (some (.v (.int .i64 (-1)))) (sel (!goodB K Y I) (some (.v (.int .i64 (-1)))) (sel (K != k) (some (.v (.int .i64 (-1))))
      (some (.v (.int .i64 (IntKind.i64.wrap (IntKind.i64.wrap (IntKind.i64.wrap (IntKind.i64.wrap (Y - y) * eachC k) + I) - i))))))) := by kernel_rfl
theorem cPlace_ok (B) : ConOk Try.prog B 29 cPlace := by
  intro args ρ h w lo out ids hr hrh hfr hfa up
  unfold cPlace at hr
  split at hr
  · rename_i K Y I
    cases hr
    exact con_nil Try.func29 (by kernel_rfl) (by kernel_rfl) CClk_ok rfl (place_nil K Y I) hrh up
  · rename_i id K Y I
    obtain ⟨k, y, i, a, b, o, ids', ho, hk, hr⟩ := clkR_run hr
    cases hr
    refine con_ro1 (F := 4) mixed Try.func29 (by kernel_rfl) (by kernel_rfl) CClk_ok (fun B' w => cn0_ok B' w _) rfl rfl (r := .v (.int .i64 (placeV k y i K Y I))) ?_ hrh up ho hk
    rw [place_tree]
    unfold placeV
    cases noneB k y i <;> cases goodB K Y I <;> cases (K != k) <;> rfl
  · cases hr
def CPl : FuncId → Option Con
  | 29 => some cPlace
  | g => CClk g
theorem CPl_ok : ∀ B' g φ, CPl g = some φ → ConOk Try.prog B' g φ := by
  intro B' g φ h
  unfold CPl at h
  split at h
  · cases h; exact cPlace_ok B'
  · exact CClk_ok B' _ φ h
def stateV (k y i a b K Y I : Int) : Int := bif decide (placeV k y i K Y I < 0) then 0 else bif decide (placeV k y i K Y I < b) then 3 else bif decide (placeV k y i K Y I < a) then 2 else 1
def cState : Con := fun args _ => match args with
  | [.v (.pointer none), .agg [.v (.int .i64 K), .v (.int .i64 Y), .v (.int .i64 I)]] => .ret ⟨.v (.int .i64 0), []⟩
  | [.ptr id 0, .agg [.v (.int .i64 K), .v (.int .i64 Y), .v (.int .i64 I)]] => clkR id fun k y i a b => .ret ⟨.v (.int .i64 (stateV k y i a b K Y I)), []⟩
  | _ => .fail
theorem state_nil (K Y I : Int) : evFn Try.prog CPl cn0 4 Try.f9 [.v (.pointer none), .agg [.v (.int .i64 K), .v (.int .i64 Y), .v (.int .i64 I)]] [] 0 K1 = some (.v (.int .i64 0)) := by kernel_rfl
theorem state_tree (k y i a b K Y I : Int) : evFn Try.prog CPl cn0 4 Try.f9 [.ptr 0 0, .agg [.v (.int .i64 K), .v (.int .i64 Y), .v (.int .i64 I)]] [(0, .ro 58 (clkC k y i a b))] 1 K1 =
    sel (decide (placeV k y i K Y I < 0)) (some (.v (.int .i64 0))) (sel (decide (placeV k y i K Y I < b)) (some (.v (.int .i64 3))) (sel (decide (placeV k y i K Y I < a)) (some (.v (.int .i64 2))) (some (.v (.int .i64 1))))) := by kernel_rfl
theorem cState_ok (B) : ConOk Try.prog B 9 cState := by
  intro args ρ h w lo out ids hr hrh hfr hfa up
  unfold cState at hr
  split at hr
  · rename_i K Y I
    cases hr
    exact con_nil Try.func9 (by kernel_rfl) (by kernel_rfl) CPl_ok rfl (state_nil K Y I) hrh up
  · rename_i id K Y I
    obtain ⟨k, y, i, a, b, o, ids', ho, hk, hr⟩ := clkR_run hr
    cases hr
    refine con_ro1 (F := 4) mixed Try.func9 (by kernel_rfl) (by kernel_rfl) CPl_ok (fun B' w => cn0_ok B' w _) rfl rfl (r := .v (.int .i64 (stateV k y i a b K Y I))) ?_ hrh up ho hk
    rw [state_tree]
    unfold stateV
    cases decide (placeV k y i K Y I < 0) <;> cases decide (placeV k y i K Y I < b) <;> cases decide (placeV k y i K Y I < a) <;> rfl
  · cases hr
def cAt : Con := fun args _ => match args with
  | [.ptr id 0, .v (.int .i64 d)] => clkR id fun k y i a b => .br (rngB d) (.ret ⟨.agg [.v (.int .i64 (nextV k y i d).1), .v (.int .i64 (nextV k y i d).2.1), .v (.int .i64 (nextV k y i d).2.2.1)], []⟩) .fail
  | _ => .fail
theorem at_tree (k y i a b d : Int) : evFn Try.prog CPl cn0 4 Try.f31 [.ptr 0 0, .v (.int .i64 d)] [(0, .ro 58 (clkC k y i a b))] 1 K1 =
    sel (rngB d) (some (.agg [.v (.int .i64 (nextV k y i d).1), .v (.int .i64 (nextV k y i d).2.1), .v (.int .i64 (nextV k y i d).2.2.1)])) none := by kernel_rfl
theorem cAt_ok (B) : ConOk Try.prog B 31 cAt := by
  intro args ρ h w lo out ids hr hrh hfr hfa up
  unfold cAt at hr
  split at hr
  · rename_i id d
    obtain ⟨k, y, i, a, b, o, ids', ho, hk, hr⟩ := clkR_run hr
    obtain ⟨hb, hr⟩ := br_run (h := h) hr
    cases hr
    refine con_ro1 (F := 4) mixed Try.func31 (by kernel_rfl) (by kernel_rfl) CPl_ok (fun B' w => cn0_ok B' w _) rfl rfl (r := .agg [.v (.int .i64 (nextV k y i d).1), .v (.int .i64 (nextV k y i d).2.1), .v (.int .i64 (nextV k y i d).2.2.1)]) ?_ hrh up ho hk
    rw [at_tree, hb]; rfl
  · cases hr
def CAt : FuncId → Option Con
  | 31 => some cAt
  | 9 => some cState
  | g => CPl g
theorem CAt_ok : ∀ B' g φ, CAt g = some φ → ConOk Try.prog B' g φ := by
  intro B' g φ h
  unfold CAt at h
  split at h
  · cases h; exact cAt_ok B'
  · cases h; exact cState_ok B'
  · exact CPl_ok B' _ φ h
def frV (k y i a : Int) : Int × Int × Int := bif noneB k y i then (0, 0, 0) else ((nextV k y i a).1, (nextV k y i a).2.1, (nextV k y i a).2.2.1)
abbrev p3 (x : Int × Int × Int) : SV := .agg [.v (.int .i64 x.1), .v (.int .i64 x.2.1), .v (.int .i64 x.2.2)]
def cFirst : Con := fun args _ => match args with
  | [.v (.pointer none)] => .ret ⟨.agg [.v (.int .i64 0), .v (.int .i64 0), .v (.int .i64 0)], []⟩
  | [.ptr id 0] => clkR id fun k y i a b => .br (rngB a) (.ret ⟨.agg [.v (.int .i64 (frV k y i a).1), .v (.int .i64 (frV k y i a).2.1), .v (.int .i64 (frV k y i a).2.2)], []⟩) .fail
  | _ => .fail
theorem first_nil : evFn Try.prog CAt cn0 4 Try.f10 [.v (.pointer none)] [] 0 K1 = some (.agg [.v (.int .i64 0), .v (.int .i64 0), .v (.int .i64 0)]) := by kernel_rfl
theorem first_tree (k y i a b : Int) : evFn Try.prog CAt cn0 4 Try.f10 [.ptr 0 0] [(0, .ro 58 (clkC k y i a b))] 1 K1 =
    sel (noneB k y i) (some (.agg [.v (.int .i64 0), .v (.int .i64 0), .v (.int .i64 0)])) (sel (rngB a) (some (.agg [.v (.int .i64 (nextV k y i a).1), .v (.int .i64 (nextV k y i a).2.1), .v (.int .i64 (nextV k y i a).2.2.1)])) none) := by kernel_rfl
theorem cFirst_ok (B) : ConOk Try.prog B 10 cFirst := by
  intro args ρ h w lo out ids hr hrh hfr hfa up
  unfold cFirst at hr
  split at hr
  · cases hr
    exact con_nil Try.func10 (by kernel_rfl) (by kernel_rfl) CAt_ok rfl first_nil hrh up
  · rename_i id
    obtain ⟨k, y, i, a, b, o, ids', ho, hk, hr⟩ := clkR_run hr
    obtain ⟨hb, hr⟩ := br_run (h := h) hr
    cases hr
    refine con_ro1 (F := 4) mixed Try.func10 (by kernel_rfl) (by kernel_rfl) CAt_ok (fun B' w => cn0_ok B' w _) rfl rfl (r := .agg [.v (.int .i64 (frV k y i a).1), .v (.int .i64 (frV k y i a).2.1), .v (.int .i64 (frV k y i a).2.2)]) ?_ hrh up ho hk
    rw [first_tree, hb]
    unfold frV
    cases noneB k y i <;> rfl
  · cases hr
def kindV (k y i : Int) : Int := bif noneB k y i then 0 else k
def cKind : Con := fun args _ => match args with
  | [.v (.pointer none)] => .ret ⟨.v (.int .i64 0), []⟩
  | [.ptr id 0] => clkR id fun k y i a b => .ret ⟨.v (.int .i64 (kindV k y i)), []⟩
  | _ => .fail
theorem kind_nil : evFn Try.prog CAt cn0 4 Try.f24 [.v (.pointer none)] [] 0 K1 = some (.v (.int .i64 0)) := by kernel_rfl
theorem kind_tree (k y i a b : Int) : evFn Try.prog CAt cn0 4 Try.f24 [.ptr 0 0] [(0, .ro 58 (clkC k y i a b))] 1 K1 = sel (noneB k y i) (some (.v (.int .i64 0))) (some (.v (.int .i64 k))) := by kernel_rfl
theorem cKind_ok (B) : ConOk Try.prog B 24 cKind := by
  intro args ρ h w lo out ids hr hrh hfr hfa up
  unfold cKind at hr
  split at hr
  · cases hr
    exact con_nil Try.func24 (by kernel_rfl) (by kernel_rfl) CAt_ok rfl kind_nil hrh up
  · rename_i id
    obtain ⟨k, y, i, a, b, o, ids', ho, hk, hr⟩ := clkR_run hr
    cases hr
    refine con_ro1 (F := 4) mixed Try.func24 (by kernel_rfl) (by kernel_rfl) CAt_ok (fun B' w => cn0_ok B' w _) rfl rfl (r := .v (.int .i64 (kindV k y i))) ?_ hrh up ho hk
    rw [kind_tree]
    unfold kindV
    cases noneB k y i <;> rfl
  · cases hr
def CFr : FuncId → Option Con
  | 10 => some cFirst
  | 24 => some cKind
  | g => CAt g
theorem CFr_ok : ∀ B' g φ, CFr g = some φ → ConOk Try.prog B' g φ := by
  intro B' g φ h
  unfold CFr at h
  split at h
  · cases h; exact cFirst_ok B'
  · cases h; exact cKind_ok B'
  · exact CAt_ok B' _ φ h
def o3 (d k : Int) : Int × Int × Int := ((ofV d k).1, (ofV d k).2.1, (ofV d k).2.2.1)
def stO (k y i a b d : Int) : Int := stateV k y i a b (ofV d k).1 (ofV d k).2.1 (ofV d k).2.2.1
def zeroB (x : Int × Int × Int) : Bool := x.1 == 0 && (x.2.1 == 0 && (x.2.2 == 0 && true))
def routeV (k y i a b d : Int) : (Int × Int × Int) × (Int × Int × Int) × Int :=
  bif noneB k y i then ((0, 0, 0), (0, 0, 0), 1) else bif (ofV d k).2.2.2 != 0 then ((0, 0, 0), (0, 0, 0), 30) else bif stO k y i a b d == 0 then ((0, 0, 0), (0, 0, 0), 30)
    else bif zeroB (frV k y i a) then ((0, 0, 0), (0, 0, 0), 70) else bif stO k y i a b d == 1 then (o3 d k, o3 d k, 0) else (frV k y i a, o3 d k, 0)
def rt (x : (Int × Int × Int) × (Int × Int × Int) × Int) : SV := .tup [.agg [.v (.int .i64 x.1.1), .v (.int .i64 x.1.2.1), .v (.int .i64 x.1.2.2)], .agg [.v (.int .i64 x.2.1.1), .v (.int .i64 x.2.1.2.1), .v (.int .i64 x.2.1.2.2)], .v (.int .i64 x.2.2)]
def cRoute : Con := fun args _ => match args with
  | [.v (.pointer none), .v (.int .i64 d)] => .ret ⟨.tup [.agg [.v (.int .i64 0), .v (.int .i64 0), .v (.int .i64 0)], .agg [.v (.int .i64 0), .v (.int .i64 0), .v (.int .i64 0)], .v (.int .i64 1)], []⟩
  | [.ptr id 0, .v (.int .i64 d)] => clkR id fun k y i a b => .br (rngB a) (.ret ⟨.tup [.agg [.v (.int .i64 (routeV k y i a b d).1.1), .v (.int .i64 (routeV k y i a b d).1.2.1), .v (.int .i64 (routeV k y i a b d).1.2.2)], .agg [.v (.int .i64 (routeV k y i a b d).2.1.1), .v (.int .i64 (routeV k y i a b d).2.1.2.1), .v (.int .i64 (routeV k y i a b d).2.1.2.2)], .v (.int .i64 (routeV k y i a b d).2.2)], []⟩) .fail
  | _ => .fail
theorem route_nil (d : Int) : evFn Try.prog CFr cn0 4 Try.f13 [.v (.pointer none), .v (.int .i64 d)] [] 0 K1 = some (rt ((0, 0, 0), (0, 0, 0), 1)) := by kernel_rfl
theorem route_tree (k y i a b d : Int) : evFn Try.prog CFr cn0 4 Try.f13 [.ptr 0 0, .v (.int .i64 d)] [(0, .ro 58 (clkC k y i a b))] 1 K1 =
    sel (noneB k y i) (some (rt ((0, 0, 0), (0, 0, 0), 1))) (sel (rngB a) (sel ((ofV d k).2.2.2 != 0) (some (rt ((0, 0, 0), (0, 0, 0), 30))) (sel (stO k y i a b d == 0) (some (rt ((0, 0, 0), (0, 0, 0), 30)))
      (sel (zeroB (frV k y i a)) (some (rt ((0, 0, 0), (0, 0, 0), 70))) (sel (stO k y i a b d == 1) (some (rt (o3 d k, o3 d k, 0))) (some (rt (frV k y i a, o3 d k, 0))))))) none) := by kernel_rfl
theorem cRoute_ok (B) : ConOk Try.prog B 13 cRoute := by
  intro args ρ h w lo out ids hr hrh hfr hfa up
  unfold cRoute at hr
  split at hr
  · rename_i d
    cases hr
    exact con_nil Try.func13 (by kernel_rfl) (by kernel_rfl) CFr_ok rfl (route_nil d) hrh up
  · rename_i id d
    obtain ⟨k, y, i, a, b, o, ids', ho, hk, hr⟩ := clkR_run hr
    obtain ⟨hb, hr⟩ := br_run (h := h) hr
    cases hr
    refine con_ro1 (F := 4) mixed Try.func13 (by kernel_rfl) (by kernel_rfl) CFr_ok (fun B' w => cn0_ok B' w _) rfl rfl (r := rt (routeV k y i a b d)) ?_ hrh up ho hk
    rw [route_tree, hb]
    unfold routeV
    cases noneB k y i <;> cases ((ofV d k).2.2.2 != 0) <;> cases (stO k y i a b d == 0) <;> cases zeroB (frV k y i a) <;> cases (stO k y i a b d == 1) <;> rfl
  · cases hr
def closeV (k y i a b K Y I : Int) : Int × Int := bif noneB k y i then (1, a) else bif stateV k y i a b K Y I == 0 then (2, a) else bif stateV k y i a b K Y I == 2 then (70, a) else bif stateV k y i a b K Y I == 3 then (70, a) else bif placeV k y i K Y I != a then (71, a) else (0, IntKind.i64.wrap (a + 1))
def fileV (k y i a b K Y I : Int) : Int × Int := bif noneB k y i then (1, b) else bif stateV k y i a b K Y I == 0 then (2, b) else bif stateV k y i a b K Y I != 2 then (71, b) else bif placeV k y i K Y I != b then (71, b) else (0, IntKind.i64.wrap (b + 1))
def cClose : Con := fun args _ => match args with
  | [.v (.pointer none), .agg [.v (.int .i64 K), .v (.int .i64 Y), .v (.int .i64 I)]] => .ret ⟨.v (.int .i64 1), []⟩
  | [.ptr id 0, .agg [.v (.int .i64 K), .v (.int .i64 Y), .v (.int .i64 I)]] => clkW id fun k y i a b => .ret ⟨.v (.int .i64 (closeV k y i a b K Y I).1), [(id, .cells 58 (clkC k y i (closeV k y i a b K Y I).2 b))]⟩
  | _ => .fail
def cFile : Con := fun args _ => match args with
  | [.v (.pointer none), .agg [.v (.int .i64 K), .v (.int .i64 Y), .v (.int .i64 I)]] => .ret ⟨.v (.int .i64 1), []⟩
  | [.ptr id 0, .agg [.v (.int .i64 K), .v (.int .i64 Y), .v (.int .i64 I)]] => clkW id fun k y i a b => .ret ⟨.v (.int .i64 (fileV k y i a b K Y I).1), [(id, .cells 58 (clkC k y i a (fileV k y i a b K Y I).2))]⟩
  | _ => .fail
theorem close_nil (K Y I : Int) : evFn Try.prog CFr cn0 4 Try.f11 [.v (.pointer none), .agg [.v (.int .i64 K), .v (.int .i64 Y), .v (.int .i64 I)]] [] 0 K1 = some (.v (.int .i64 1)) := by kernel_rfl
theorem file_nil (K Y I : Int) : evFn Try.prog CFr cn0 4 Try.f12 [.v (.pointer none), .agg [.v (.int .i64 K), .v (.int .i64 Y), .v (.int .i64 I)]] [] 0 K1 = some (.v (.int .i64 1)) := by kernel_rfl
def clkE (e k y i a b : Int) : Option (SV × Hp) := some (.v (.int .i64 e), [(0, .cells 58 (clkC k y i a b))])
theorem close_tree (k y i a b K Y I : Int) : evFn Try.prog CFr cn0 4 Try.f11 [.ptr 0 0, .agg [.v (.int .i64 K), .v (.int .i64 Y), .v (.int .i64 I)]] [(0, .cells 58 (clkC k y i a b))] 1 (KO 1) =
    sel (noneB k y i) (clkE 1 k y i a b) (sel (stateV k y i a b K Y I == 0) (clkE 2 k y i a b) (sel (stateV k y i a b K Y I == 2) (clkE 70 k y i a b) (sel (stateV k y i a b K Y I == 3) (clkE 70 k y i a b) (sel (placeV k y i K Y I != a) (clkE 71 k y i a b) (clkE 0 k y i (IntKind.i64.wrap (a + 1)) b))))) := by kernel_rfl
theorem file_tree (k y i a b K Y I : Int) : evFn Try.prog CFr cn0 4 Try.f12 [.ptr 0 0, .agg [.v (.int .i64 K), .v (.int .i64 Y), .v (.int .i64 I)]] [(0, .cells 58 (clkC k y i a b))] 1 (KO 1) =
    sel (noneB k y i) (clkE 1 k y i a b) (sel (stateV k y i a b K Y I == 0) (clkE 2 k y i a b) (sel (stateV k y i a b K Y I != 2) (clkE 71 k y i a b) (sel (placeV k y i K Y I != b) (clkE 71 k y i a b) (clkE 0 k y i a (IntKind.i64.wrap (b + 1)))))) := by kernel_rfl
theorem cClose_ok (B) : ConOk Try.prog B 11 cClose := by
  intro args ρ h w lo out ids hr hrh hfr hfa up
  unfold cClose at hr
  split at hr
  · rename_i K Y I
    cases hr
    exact con_nil Try.func11 (by kernel_rfl) (by kernel_rfl) CFr_ok rfl (close_nil K Y I) hrh up
  · rename_i id K Y I
    obtain ⟨k, y, i, a, b, ids', ho, hr⟩ := clkW_run hr
    cases hr
    refine con_mut1 (F := 4) mixed Try.func11 (by kernel_rfl) (by kernel_rfl) CFr_ok (fun B' w0 _ => cn0_ok B' w0 _) rfl rfl rfl rfl ?_ hrh hfr up ho
    rw [close_tree]
    unfold closeV
    cases noneB k y i <;> cases (stateV k y i a b K Y I == 0) <;> cases (stateV k y i a b K Y I == 2) <;> cases (stateV k y i a b K Y I == 3) <;> cases (placeV k y i K Y I != a) <;> rfl
  · cases hr
theorem cFile_ok (B) : ConOk Try.prog B 12 cFile := by
  intro args ρ h w lo out ids hr hrh hfr hfa up
  unfold cFile at hr
  split at hr
  · rename_i K Y I
    cases hr
    exact con_nil Try.func12 (by kernel_rfl) (by kernel_rfl) CFr_ok rfl (file_nil K Y I) hrh up
  · rename_i id K Y I
    obtain ⟨k, y, i, a, b, ids', ho, hr⟩ := clkW_run hr
    cases hr
    refine con_mut1 (F := 4) mixed Try.func12 (by kernel_rfl) (by kernel_rfl) CFr_ok (fun B' w0 _ => cn0_ok B' w0 _) rfl rfl rfl rfl ?_ hrh hfr up ho
    rw [file_tree]
    unfold fileV
    cases noneB k y i <;> cases (stateV k y i a b K Y I == 0) <;> cases (stateV k y i a b K Y I != 2) <;> cases (placeV k y i K Y I != b) <;> rfl
  · cases hr
def cNew : Con := fun args lo => match args with
  | [.v (.int .i64 kd), .v (.int .i64 d)] => .br ((ofV d kd).2.2.2 != 0 || kd == 3) (.ret ⟨.v (.pointer none), []⟩) (.ret ⟨.ptr lo 0, [(lo, .cells 58 (clkC (ofV d kd).1 (ofV d kd).2.1 (ofV d kd).2.2.1 0 0))]⟩)
  | _ => .fail
theorem new_tree (kd d : Int) : evFn Try.prog CFr cn0 4 Try.f8 [.v (.int .i64 kd), .v (.int .i64 d)] [] 0 (KO 0) =
    sel ((ofV d kd).2.2.2 != 0) (some (.v (.pointer none), [])) (sel (kd == 3) (some (.v (.pointer none), [])) (some (.ptr 0 0, [(0, .cells 58 (clkC (ofV d kd).1 (ofV d kd).2.1 (ofV d kd).2.2.1 0 0))]))) := by kernel_rfl
theorem cNew_ok (B) : ConOk Try.prog B 8 cNew := by
  intro args ρ h w lo out ids hr hrh hfr hfa up
  unfold cNew at hr
  split at hr
  · rename_i kd d
    cases hb : ((ofV d kd).2.2.2 != 0 || kd == 3) with
    | true =>
      rw [hb] at hr
      cases hr
      have ht : evFn Try.prog CFr cn0 4 Try.f8 [.v (.int .i64 kd), .v (.int .i64 d)] [] 0 (KO 0) = some (.v (.pointer none), []) := by
        rw [new_tree]
        cases h1 : ((ofV d kd).2.2.2 != 0) with
        | true => rfl
        | false => rw [h1, Bool.false_or] at hb; rw [hb]; rfl
      exact con_new1 mixed Try.func8 (by kernel_rfl) (by kernel_rfl) CFr_ok (fun B' w0 _ => cn0_ok B' w0 _) rfl ht hrh hfr up
    | false =>
      rw [hb] at hr
      cases hr
      have ht : evFn Try.prog CFr cn0 4 Try.f8 [.v (.int .i64 kd), .v (.int .i64 d)] [] 0 (KO 0) = some (.ptr 0 0, [(0, .cells 58 (clkC (ofV d kd).1 (ofV d kd).2.1 (ofV d kd).2.2.1 0 0))]) := by
        rw [new_tree]
        rw [Bool.or_eq_false_iff] at hb
        rw [hb.1, hb.2]; rfl
      exact con_new1 mixed Try.func8 (by kernel_rfl) (by kernel_rfl) CFr_ok (fun B' w0 _ => cn0_ok B' w0 _) rfl ht hrh hfr up
  · cases hr
def CPer : FuncId → Option Con
  | 8 => some cNew
  | 11 => some cClose
  | 12 => some cFile
  | 13 => some cRoute
  | g => CFr g
theorem CPer_ok : ∀ B' g φ, CPer g = some φ → ConOk Try.prog B' g φ := by
  intro B' g φ h
  unfold CPer at h
  split at h
  · cases h; exact cNew_ok B'
  · cases h; exact cClose_ok B'
  · cases h; exact cFile_ok B'
  · cases h; exact cRoute_ok B'
  · exact CFr_ok B' _ φ h
theorem lives_ev : evFn Try.prog CPer cn0 4 Try.f7 [] [] 0 K1 = some (.v (.bool true)) := by kernel_rfl
def cLives : Con := fun args _ => match args with
  | [] => .ret ⟨.v (.bool true), []⟩
  | _ => .fail
theorem cLives_ok (B) : ConOk Try.prog B 7 cLives := by
  intro args ρ h w lo out ids hr hrh hfr hfa up
  unfold cLives at hr
  split at hr
  · cases hr
    exact con_nil Try.func7 (by kernel_rfl) (by kernel_rfl) CPer_ok rfl lives_ev hrh up
  · cases hr
end Go.Proofs.Ytmgfaoomdpgbhaa.Ax
namespace Go.Proofs.Ytmgfaoomdpgbhaa.Ax
open Go Go.RowKit Go.Proofs.Ytmgfaoomdpgbhaa.Print
set_option linter.unusedVariables false
set_option linter.unusedSimpArgs false
def cClone : Con := fun args lo => match args with
  | [.v (.pointer none)] => .ret ⟨.v (.pointer none), []⟩
  | _ => .fail
theorem clone_nil : evFn Try.prog C0 cn0 4 Try.f21 [.v (.pointer none)] [] 0 K1 = some (.v (.pointer none)) := by kernel_rfl
theorem cClone_ok (B) : ConOk Try.prog B 21 cClone := by
  intro args ρ h w lo out ids hr hrh hfr hfa up
  unfold cClone at hr
  split at hr
  · cases hr
    exact con_nil Try.func21 (by kernel_rfl) (by kernel_rfl) C0_ok rfl clone_nil hrh up
  · cases hr
def cFiled : Con := fun args _ => match args with
  | [.v (.pointer none)] => .ret ⟨.v (.slice none 0 0), []⟩
  | [.ptr id 0] => clkR id fun k y i a b => .br (noneB k y i) (.ret ⟨.v (.slice none 0 0), []⟩) .fail
  | _ => .fail
theorem filed_nil : evFn Try.prog CPer cn0 4 Try.f26 [.v (.pointer none)] [] 0 K1 = some (.v (.slice none 0 0)) := by kernel_rfl
theorem filed_none (a b : Int) : evFn Try.prog CPer cn0 4 Try.f26 [.ptr 0 0] [(0, .ro 58 (clkC 0 0 0 a b))] 1 K1 = some (.v (.slice none 0 0)) := by kernel_rfl
theorem cFiled_ok (B) : ConOk Try.prog B 26 cFiled := by
  intro args ρ h w lo out ids hr hrh hfr hfa up
  unfold cFiled at hr
  split at hr
  · cases hr
    exact con_nil Try.func26 (by kernel_rfl) (by kernel_rfl) CPer_ok rfl filed_nil hrh up
  · rename_i id
    obtain ⟨k, y, i, a, b, o, ids', ho, hk, hr⟩ := clkR_run hr
    obtain ⟨hb, hr⟩ := br_run (h := h) hr
    cases hr
    simp only [noneB, Bool.and_true, Bool.and_eq_true, beq_iff_eq] at hb
    obtain ⟨rfl, rfl, rfl⟩ := hb
    exact con_ro1 (F := 4) mixed Try.func26 (by kernel_rfl) (by kernel_rfl) CPer_ok (fun B' w => cn0_ok B' w _) rfl rfl (filed_none a b) hrh up ho hk
  · cases hr
def CLaw : FuncId → Option Con
  | 7 => some cLives
  | 21 => some cClone
  | 26 => some cFiled
  | g => CPer g
theorem CLaw_ok : ∀ B' g φ, CLaw g = some φ → ConOk Try.prog B' g φ := by
  intro B' g φ h
  unfold CLaw at h
  split at h
  · cases h; exact cLives_ok B'
  · cases h; exact cClone_ok B'
  · cases h; exact cFiled_ok B'
  · exact CPer_ok B' _ φ h
end Go.Proofs.Ytmgfaoomdpgbhaa.Ax
namespace Go.Proofs.Ytmgfaoomdpgbhaa.Ax
open Go Go.RowKit Go.Proofs.Ytmgfaoomdpgbhaa.Print
set_option linter.unusedVariables false
set_option linter.unusedSimpArgs false
structure Clk (k y m a b : Int) (n : Nat) : Prop where
  kd : k = 1 ∨ k = 2
  good : goodB k y m = true
  b0 : 0 ≤ b
  ba : b ≤ a
  an : a ≤ n
def plV (k y m K Y I : Int) : Int := if goodB K Y I = true ∧ K = k then (Y - y) * manyV k + I - m else -1
def stV (n a b : Int) : Int := if n < 0 then 0 else if n < b then 3 else if n < a then 2 else 1
theorem many1 : manyV 1 = 12 := rfl
theorem many2 : manyV 2 = 4 := rfl
theorem wi {x : Int} (h1 : -9223372036854775808 ≤ x) (h2 : x ≤ 9223372036854775807) : IntKind.i64.wrap x = x := by rw [IntKind.wrap_i64]; omega
theorem none_no {k y m : Int} (hk : k = 1 ∨ k = 2) : noneB k y m = false := by
  rcases hk with rfl | rfl <;> rfl
theorem place_eq {k y m : Int} (hk : k = 1 ∨ k = 2) (hg : goodB k y m = true) (K Y I : Int) : placeV k y m K Y I = plV k y m K Y I := by
  unfold placeV plV
  rw [none_no hk]
  cases h : goodB K Y I with
  | false => rw [if_neg (by simp)]; rfl
  | true =>
    rw [goodB_iff] at h hg
    have h12 := many_bd K
    have h13 := many_bd k
    by_cases e : K = k
    · subst e
      rw [if_pos ⟨rfl, rfl⟩, show (K != K) = false from bne_self_eq_false K]
      simp only [Bool.not_true, cond_false]
      rcases hk with rfl | rfl
      · rw [many1] at h hg ⊢
        show IntKind.i64.wrap (IntKind.i64.wrap (IntKind.i64.wrap (IntKind.i64.wrap (Y - y) * 12) + I) - m) = _
        rw [wi (x := Y - y) (by omega) (by omega), wi (x := (Y - y) * 12) (by omega) (by omega), wi (x := (Y - y) * 12 + I) (by omega) (by omega), wi (by omega) (by omega)]
      · rw [many2] at h hg ⊢
        show IntKind.i64.wrap (IntKind.i64.wrap (IntKind.i64.wrap (IntKind.i64.wrap (Y - y) * 4) + I) - m) = _
        rw [wi (x := Y - y) (by omega) (by omega), wi (x := (Y - y) * 4) (by omega) (by omega), wi (x := (Y - y) * 4 + I) (by omega) (by omega), wi (by omega) (by omega)]
    · rw [if_neg (fun h => e h.2), show (K != k) = true by simpa using e]; rfl
theorem state_eq {k y m : Int} (hk : k = 1 ∨ k = 2) (hg : goodB k y m = true) (a b K Y I : Int) : stateV k y m a b K Y I = stV (plV k y m K Y I) a b := by
  unfold stateV stV
  rw [place_eq hk hg]
  simp only [Bool.cond_decide]
theorem st_cases (n a b : Int) : stV n a b = 0 ∨ stV n a b = 1 ∨ stV n a b = 2 ∨ stV n a b = 3 := by
  unfold stV; split; · exact .inl rfl
  split; · exact .inr (.inr (.inr rfl))
  split; · exact .inr (.inr (.inl rfl))
  exact .inr (.inl rfl)
theorem close_spec {k y m a b : Int} {N : Nat} (c : Clk k y m a b N) (hN : N ≤ 1000) (P : Int × Int × Int) :
    ((closeV k y m a b P.1 P.2.1 P.2.2).1 ≠ 0 ∧ (closeV k y m a b P.1 P.2.1 P.2.2).2 = a) ∨
    ((closeV k y m a b P.1 P.2.1 P.2.2).1 = 0 ∧ (closeV k y m a b P.1 P.2.1 P.2.2).2 = a + 1 ∧ plV k y m P.1 P.2.1 P.2.2 = a) := by
  have h1 := c.an
  have h2 := c.b0
  have h3 := c.ba
  unfold closeV
  rw [none_no c.kd, state_eq c.kd c.good, place_eq c.kd c.good]
  simp only [cond_false]
  rcases st_cases (plV k y m P.1 P.2.1 P.2.2) a b with h | h | h | h <;> rw [h]
  · exact .inl ⟨fun h => absurd (show (2 : Int) = 0 from h) (by decide), rfl⟩
  · by_cases e : plV k y m P.1 P.2.1 P.2.2 = a
    · rw [e, show (a != a) = false from bne_self_eq_false a, wi (by omega) (by omega)]
      exact .inr ⟨rfl, rfl, rfl⟩
    · rw [show (plV k y m P.1 P.2.1 P.2.2 != a) = true by simpa using e]
      exact .inl ⟨fun h => absurd (show (71 : Int) = 0 from h) (by decide), rfl⟩
  · exact .inl ⟨fun h => absurd (show (70 : Int) = 0 from h) (by decide), rfl⟩
  · exact .inl ⟨fun h => absurd (show (70 : Int) = 0 from h) (by decide), rfl⟩
theorem file_spec {k y m a b : Int} {N : Nat} (c : Clk k y m a b N) (hN : N ≤ 1000) (P : Int × Int × Int) :
    ((fileV k y m a b P.1 P.2.1 P.2.2).1 ≠ 0 ∧ (fileV k y m a b P.1 P.2.1 P.2.2).2 = b) ∨
    ((fileV k y m a b P.1 P.2.1 P.2.2).1 = 0 ∧ (fileV k y m a b P.1 P.2.1 P.2.2).2 = b + 1 ∧ plV k y m P.1 P.2.1 P.2.2 = b ∧ b < a) := by
  have h1 := c.an
  have h2 := c.b0
  have h3 := c.ba
  unfold fileV
  rw [none_no c.kd, state_eq c.kd c.good, place_eq c.kd c.good]
  simp only [cond_false]
  rcases st_cases (plV k y m P.1 P.2.1 P.2.2) a b with h | h | h | h <;> rw [h]
  · exact .inl ⟨fun h => absurd (show (2 : Int) = 0 from h) (by decide), rfl⟩
  · exact .inl ⟨fun h => absurd (show (71 : Int) = 0 from h) (by decide), rfl⟩
  · by_cases e : plV k y m P.1 P.2.1 P.2.2 = b
    · rw [e, show (b != b) = false from bne_self_eq_false b, wi (by omega) (by omega)]
      refine .inr ⟨rfl, rfl, rfl, ?_⟩
      rw [e] at h
      unfold stV at h
      apply Decidable.byContradiction
      intro hc
      rw [if_neg (by omega), if_neg (by omega), if_neg (by omega)] at h
      cases h
    · rw [show (plV k y m P.1 P.2.1 P.2.2 != b) = true by simpa using e]
      exact .inl ⟨fun h => absurd (show (71 : Int) = 0 from h) (by decide), rfl⟩
  · exact .inl ⟨fun h => absurd (show (71 : Int) = 0 from h) (by decide), rfl⟩
theorem Clk.close {k y m a b : Int} {N : Nat} (c : Clk k y m a b N) (hN : N ≤ 1000) (P : Int × Int × Int) : Clk k y m (closeV k y m a b P.1 P.2.1 P.2.2).2 b (N + 1) := by
  have h1 := c.an
  have h3 := c.ba
  rcases close_spec c hN P with ⟨_, h⟩ | ⟨_, h, _⟩ <;> rw [h]
  · exact ⟨c.kd, c.good, c.b0, c.ba, by omega⟩
  · exact ⟨c.kd, c.good, c.b0, by omega, by omega⟩
theorem Clk.file {k y m a b : Int} {N : Nat} (c : Clk k y m a b N) (hN : N ≤ 1000) (P : Int × Int × Int) : Clk k y m a (fileV k y m a b P.1 P.2.1 P.2.2).2 (N + 1) := by
  have h1 := c.an
  have h2 := c.b0
  have h3 := c.ba
  rcases file_spec c hN P with ⟨_, h⟩ | ⟨_, h, _, h4⟩ <;> rw [h]
  · exact ⟨c.kd, c.good, c.b0, c.ba, by omega⟩
  · exact ⟨c.kd, c.good, by omega, by omega, by omega⟩
theorem of_good (n kd : Int) (h : (ofV n kd).2.2.2 = 0) : goodB (ofV n kd).1 (ofV n kd).2.1 (ofV n kd).2.2.1 = true ∧ (ofV n kd).1 = kd := by
  have hw := of_within n kd h
  have hg : goodB (ofV n kd).1 (ofV n kd).2.1 (ofV n kd).2.2.1 = true := by
    unfold withinV at hw
    rw [first_err] at hw
    cases hg : goodB (ofV n kd).1 (ofV n kd).2.1 (ofV n kd).2.2.1 with
    | true => rfl
    | false => rw [hg] at hw; simp at hw
  refine ⟨hg, ?_⟩
  unfold ofV at h ⊢
  split at h
  · rename_i c
    rw [if_pos c]
    try (split at h <;> split <;> first | rfl | (cases h; done) | simp_all)
  · simp_all
theorem clk_new {n kd : Int} (h : ((ofV n kd).2.2.2 != 0 || kd == 3) = false) : Clk (ofV n kd).1 (ofV n kd).2.1 (ofV n kd).2.2.1 0 0 0 := by
  rw [Bool.or_eq_false_iff] at h
  have h0 : (ofV n kd).2.2.2 = 0 := by simpa using h.1
  have h3 : kd ≠ 3 := by simpa using h.2
  obtain ⟨hg, hk⟩ := of_good n kd h0
  refine ⟨?_, hg, by omega, by omega, by omega⟩
  rw [hk]
  rw [hk, goodB_iff] at hg
  rcases many_cases kd with c | c | c | c
  · exact .inl c.1
  · exact .inr c.1
  · exact absurd c.1 h3
  · omega
end Go.Proofs.Ytmgfaoomdpgbhaa.Ax
namespace Go.Proofs.Ytmgfaoomdpgbhaa.Ax
open Go Go.RowKit
set_option linter.unusedVariables false
set_option linter.unusedSimpArgs false
theorem Rd.runK_nat {α : Type} (h : Hp) (r : Rd α) : ∀ {β : Type} (l : List Nat) (K : α → List Nat → Option β) (b : β), r.runK h l K = some b → ∃ a ids, ∀ (γ : Type) (K' : α → List Nat → Option γ), r.runK h l K' = K' a ids := by
  induction r with
  | ret a => exact fun l K b hb => ⟨a, l, fun γ K' => rfl⟩
  | fail => exact fun l K b hb => by cases hb
  | obj id k ih =>
    intro β l K b hb
    simp only [Rd.runK] at hb ⊢
    cases ho : look h id with
    | none => rw [ho] at hb; cases hb
    | some o => rw [ho] at hb; exact ih o _ _ _ hb
  | br c t e iht ihe =>
    intro β l K b hb
    cases c with
    | true => exact iht _ _ _ hb
    | false => exact ihe _ _ _ hb
  | opt x k ih =>
    intro β l K b hb
    cases x with
    | none => cases hb
    | some y => exact ih y _ _ _ hb
  | cps f nat k ih =>
    intro β l K b hb
    obtain ⟨y, hy⟩ := nat _ _ _ hb
    simp only [Rd.runK, hy] at hb ⊢
    exact ih y _ _ _ hb
section
variable {E : Oper → (Operand → Option SV) → Nat → Rd Out} {n : Nat}
theorem evOps_nat {ops : Array Oper} {n0 : Nat} : ∀ (l : List Oper) (i : Nat) (σ : St) (rs : List Rec) {β : Type} (K : St → List Rec → Option β) (b : β), evOps E n ops n0 i l σ rs K = some b → ∃ σ' rs', ∀ (γ : Type) (K' : St → List Rec → Option γ), evOps E n ops n0 i l σ rs K' = K' σ' rs'
  | [], i, σ, rs, β, K, b, h => ⟨σ, rs, fun γ K' => rfl⟩
  | o :: l, i, σ, rs, β, K, b, h => by
    simp only [evOps, forceSt_eq] at h ⊢
    cases hk : dstOk n o.dst with
    | false => rw [hk] at h; cases h
    | true =>
      rw [hk] at h
      simp only [cond_true] at h ⊢
      have exec : ∀ (τ : St), ((E o (evo τ) (n0 + wide * i)).runK τ.hp [] fun out ids => evOps E n ops n0 (i + 1) l (τ.app o.dst out) (⟨i, out, ids.reverse⟩ :: rs) K) = some b →
          ∃ σ' rs', ∀ (γ : Type) (K' : St → List Rec → Option γ), ((E o (evo τ) (n0 + wide * i)).runK τ.hp [] fun out ids => evOps E n ops n0 (i + 1) l (τ.app o.dst out) (⟨i, out, ids.reverse⟩ :: rs) K') = K' σ' rs' := by
        intro τ hr
        obtain ⟨out, ids, h1⟩ := Rd.runK_nat _ _ _ _ _ hr
        rw [h1] at hr
        obtain ⟨σ', rs', h2⟩ := evOps_nat l (i + 1) _ _ K b hr
        exact ⟨σ', rs', fun γ K' => by rw [h1]; exact h2 γ K'⟩
      cases hg : o.guard with
      | none => rw [hg] at h; exact exec σ h
      | some gw =>
        obtain ⟨g, want⟩ := gw
        rw [hg] at h
        simp only at h ⊢
        cases hy : ysv ops σ g with
        | none =>
          rw [hy] at h
          simp only at h ⊢
          cases hu : yun ops σ g with
          | false => rw [hu] at h; cases h
          | true => rw [hu] at h; exact evOps_nat l (i + 1) _ _ K b h
        | some c =>
          rw [hy] at h
          simp only at h ⊢
          cases want <;> cases c
          · exact exec _ h
          · exact evOps_nat l (i + 1) _ _ K b h
          · exact evOps_nat l (i + 1) _ _ K b h
          · exact exec _ h
theorem evReg_nat {ops : Array Oper} {draw : Bool} {σ : St} {β : Type} {K : St → Option β} {b : β} (h : evReg E n ops draw σ K = some b) : ∃ σ', ∀ (γ : Type) (K' : St → Option γ), evReg E n ops draw σ K' = K' σ' := by
  obtain ⟨sl, hp, nx⟩ := σ
  unfold evReg at h ⊢
  simp only at h ⊢
  obtain ⟨σ', rs', h1⟩ := evOps_nat _ _ _ _ _ _ h
  rw [h1] at h
  cases hb : regOk ops nx draw rs'.reverse with
  | false => rw [hb] at h; cases h
  | true =>
    refine ⟨⟨σ'.sl, σ'.hp, nx + wide * ops.size⟩, fun γ K' => ?_⟩
    rw [h1, hb, forceN_eq]
    rfl
variable {cn : Nat → St → Option St} {F : Nat}
theorem ev_nat : ∀ (c : Code) (σ : St) {β : Type} (K : Ex → St → Option β) (b : β), ev E n cn F c σ K = some b → ∃ e σ', ∀ (γ : Type) (K' : Ex → St → Option γ), ev E n cn F c σ K' = K' e σ'
  | .skip, σ, β, K, b, h => ⟨.normal, σ, fun γ K' => rfl⟩
  | .region id ops draw, σ, β, K, b, h => by
    obtain ⟨σ', h1⟩ := evReg_nat (K := K .normal) h
    exact ⟨.normal, σ', fun γ K' => h1 γ (K' .normal)⟩
  | .seq x y, σ, β, K, b, h => by
    obtain ⟨e, σ1, h1⟩ := ev_nat x σ _ b h
    have h' : (match (generalizing := false) e with | .normal => ev E n cn F y σ1 K | .exit id => K (.exit id) σ1 | .ret => K .ret σ1) = some b := (h1 _ _).symm.trans h
    cases e with
    | normal =>
      obtain ⟨e2, σ2, h2⟩ := ev_nat y σ1 K b h'
      exact ⟨e2, σ2, fun γ K' => (h1 γ _).trans (h2 γ K')⟩
    | exit id => exact ⟨.exit id, σ1, fun γ K' => h1 γ _⟩
    | ret => exact ⟨.ret, σ1, fun γ K' => h1 γ _⟩
  | .cond c x y, σ, β, K, b, h => by
    simp only [ev, forceSt_eq] at h ⊢
    split at h
    · rename_i t ht
      cases t with
      | true =>
        obtain ⟨e, σ', h1⟩ := ev_nat x _ K b h
        exact ⟨e, σ', fun γ K' => h1 γ K'⟩
      | false =>
        obtain ⟨e, σ', h1⟩ := ev_nat y _ K b h
        exact ⟨e, σ', fun γ K' => h1 γ K'⟩
    · cases h
  | .block id c, σ, β, K, b, h => by
    obtain ⟨e, σ1, h1⟩ := ev_nat c σ _ b h
    have h' : (match (generalizing := false) e with | .normal => K .normal σ1 | .exit j => cond (Nat.beq j id) (K .normal σ1) (K (.exit j) σ1) | .ret => K .ret σ1) = some b := (h1 _ _).symm.trans h
    cases e with
    | normal => exact ⟨.normal, σ1, fun γ K' => h1 γ _⟩
    | exit j =>
      cases hj : Nat.beq j id with
      | true => exact ⟨.normal, σ1, fun γ K' => by refine (h1 γ _).trans ?_; simp only [hj, cond_true]⟩
      | false => exact ⟨.exit j, σ1, fun γ K' => by refine (h1 γ _).trans ?_; simp only [hj, cond_false]⟩
    | ret => exact ⟨.ret, σ1, fun γ K' => h1 γ _⟩
  | .loop c, σ, β, K, b, h => by
    simp only [ev] at h ⊢
    cases hc : cn (key c) σ with
    | none => rw [hc] at h; cases h
    | some σ0 =>
      rw [hc] at h
      simp only at h ⊢
      clear hc
      have go : ∀ (k : Nat) (σ1 : St), iter k (fun rec σ1 => ev E n cn F c σ1 fun e σ' => match e with
          | .normal => match cn (key c) σ' with
            | none => none
            | some σ2 => rec σ2
          | .exit id => K (.exit id) σ'
          | .ret => K .ret σ') σ1 = some b → ∃ e σ', ∀ (γ : Type) (K' : Ex → St → Option γ), iter k (fun rec σ1 => ev E n cn F c σ1 fun e σ' => match e with
          | .normal => match cn (key c) σ' with
            | none => none
            | some σ2 => rec σ2
          | .exit id => K' (.exit id) σ'
          | .ret => K' .ret σ') σ1 = K' e σ' := by
        intro k
        induction k with
        | zero => intro σ1 h; cases h
        | succ k ih =>
          intro σ1 h
          simp only [iter] at h ⊢
          obtain ⟨e, σ', h1⟩ := ev_nat c σ1 _ b h
          rw [h1] at h
          cases e with
          | normal =>
            simp only at h
            cases hc : cn (key c) σ' with
            | none => rw [hc] at h; cases h
            | some σ2 =>
              rw [hc] at h
              obtain ⟨e2, σ3, h2⟩ := ih σ2 h
              refine ⟨e2, σ3, fun γ K' => ?_⟩
              rw [h1]
              simp only [hc]
              exact h2 γ K'
          | exit id => exact ⟨.exit id, σ', fun γ K' => by rw [h1]⟩
          | ret => exact ⟨.ret, σ', fun γ K' => by rw [h1]⟩
      exact go F σ0 h
  | .label _, σ, β, K, b, h => ⟨.normal, σ, fun γ K' => rfl⟩
  | .exit id, σ, β, K, b, h => ⟨.exit id, σ, fun γ K' => rfl⟩
  | .ret, σ, β, K, b, h => ⟨.ret, σ, fun γ K' => rfl⟩
  | .scope _, σ, β, K, b, h => by cases h
end
section
variable {P : Program} {C : FuncId → Option Con} {cn : Nat → St → Option St} {F : Nat}
theorem evFn_nat {fn : Func} {args : List SV} {hp : Hp} {nx : Nat} {β : Type} {K : SV → Hp → Option β} {b : β} (h : evFn P C cn F fn args hp nx K = some b) : ∃ s h', ∀ (γ : Type) (K' : SV → Hp → Option γ), evFn P C cn F fn args hp nx K' = K' s h' := by
  unfold evFn at h ⊢
  cases hb : fn.body with
  | none => rw [hb] at h; cases h
  | some c =>
    rw [hb] at h
    simp only at h ⊢
    cases hn : Nat.ble args.length fn.ntmps with
    | false => rw [hn] at h; cases h
    | true =>
      rw [hn] at h
      simp only [cond_true] at h ⊢
      obtain ⟨e, σ', h1⟩ := ev_nat c _ _ b h
      rw [h1] at h
      cases e with
      | exit id => cases h
      | normal =>
        simp only at h
        cases hr : resS P σ' fn.results.toList with
        | none => rw [hr] at h; cases h
        | some l => exact ⟨resV l, σ'.hp, fun γ K' => by rw [h1]; simp only [hr]⟩
      | ret =>
        simp only at h
        cases hr : resS P σ' fn.results.toList with
        | none => rw [hr] at h; cases h
        | some l => exact ⟨resV l, σ'.hp, fun γ K' => by rw [h1]; simp only [hr]⟩
def gatherR : Nat → List Nat → List (Nat × AObj) → (List (Nat × AObj) → Rd Out) → Rd Out
  | 0, _, _, _ => .fail
  | f + 1, todo, acc, k => match todo with
    | [] => k acc
    | i :: l => match look acc i with
      | some _ => gatherR f l acc k
      | none => .obj i fun o => gatherR f (l ++ o.names) (acc ++ [(i, o)]) k
def idxOf (i : Nat) : Nat → List (Nat × AObj) → Nat
  | n, [] => n
  | n, (j, _) :: l => cond (Nat.beq j i) n (idxOf i (n + 1) l)
def nthOf : List (Nat × AObj) → Nat → Nat
  | [], j => j
  | (i, _) :: _, 0 => i
  | _ :: l, j + 1 => nthOf l j
def viewO (own : Bool) (m : Nat → Nat) : AObj → AObj
  | .cells ty c => cond own (.cells ty (renL m c)) (.ro ty (renL m c))
  | .row ty s l => cond own (.row ty s l) (.arg s l)
  | .ro ty c => .ro ty (renL m c)
  | .arg s l => .arg s l
  | .dead => .dead
def hcOf (own : Bool) (m : Nat → Nat) : Nat → List (Nat × AObj) → Hp
  | _, [] => []
  | j, (_, o) :: l => cond o.isDead (hcOf own m (j + 1) l) ((j, viewO own m o) :: hcOf own m (j + 1) l)
def chkRen (acc : List (Nat × AObj)) (i : Nat) : Bool := Nat.blt (idxOf i 0 acc) acc.length && Nat.beq (nthOf acc (idxOf i 0 acc)) i
def chkIdx (acc : List (Nat × AObj)) : Nat → List (Nat × AObj) → Bool
  | _, [] => true
  | j, (i, o) :: l => Nat.beq (idxOf i 0 acc) j && o.ids (chkRen acc) && chkIdx acc (j + 1) l
def ownChk (hp' : Hp) : Hp → Bool
  | [] => true
  | (i, o) :: l => (!o.own || (match look hp' i with
    | some o' => o'.own || o'.isDead
    | none => false)) && ownChk hp' l
noncomputable def conAuto (P : Program) (C : FuncId → Option Con) (cn : Nat → St → Option St) (F : Nat) (own : Bool) (fn : Func) : Con := fun args lo =>
  gatherR 60 (namesL args) [] fun acc => cond (idsL (chkRen acc) args && chkIdx acc 0 acc)
    (.cps (δ := Out) (fun γ k => forceC (renL (fun i => idxOf i 0 acc) args) fun args' => forceHp (hcOf own (fun i => idxOf i 0 acc) 0 acc) fun hc => forceN acc.length fun p =>
      evFn P C cn F fn args' hc p fun s h => match KO p s h with
        | none => none
        | some (r, hp') => cond (ownChk hp' hc) (k ⟨ren (mr (nthOf acc) p lo) r, updGo (mr (nthOf acc) p lo) hp' hp'⟩) none)
      (fun γ k b h => by
        simp only [forceC_eq, forceHp_eq, forceN_eq] at h ⊢
        obtain ⟨s, h', h1⟩ := evFn_nat h
        rw [h1] at h
        cases hk : KO acc.length s h' with
        | none => rw [hk] at h; cases h
        | some x =>
          obtain ⟨r, hp'⟩ := x
          rw [hk] at h
          simp only at h
          cases ho : ownChk hp' (hcOf own (fun i => idxOf i 0 acc) 0 acc) with
          | false => rw [ho] at h; cases h
          | true => exact ⟨⟨ren (mr (nthOf acc) acc.length lo) r, updGo (mr (nthOf acc) acc.length lo) hp' hp'⟩, fun γ' k' => by rw [h1]; simp only [hk, ho, cond_true]⟩)
      fun out => .ret out) .fail
mutual
theorem ren_back {m fm : Nat → Nat} {q : Nat → Bool} (hq : ∀ i, q i = true → m (fm i) = i) : ∀ s : SV, s.ids q = true → ren m (ren fm s) = s
  | .v _, _ => rfl
  | .ptr id _, h => by simp only [ren]; rw [hq id h]
  | .elt id _ _ _, h => by simp only [ren]; rw [hq id h]
  | .slc id _ _ _ _, h => by simp only [ren]; rw [hq id h]
  | .all id, h => by simp only [ren]; rw [hq id h]
  | .map id, h => by simp only [ren]; rw [hq id h]
  | .fn _ fi ca, h => by
    simp only [SV.ids, Bool.and_eq_true] at h
    simp only [ren]; rw [renL_back hq fi h.1, renL_back hq ca h.2]
  | .agg l, h => by simp only [ren]; rw [renL_back hq l h]
  | .tup l, h => by simp only [ren]; rw [renL_back hq l h]
theorem renL_back {m fm : Nat → Nat} {q : Nat → Bool} (hq : ∀ i, q i = true → m (fm i) = i) : ∀ l : List SV, idsL q l = true → renL m (renL fm l) = l
  | [], _ => rfl
  | s :: l, h => by
    simp only [idsL, Bool.and_eq_true] at h
    simp only [renL]; rw [ren_back hq s h.1, renL_back hq l h.2]
end
theorem gatherR_run {h : Hp} {k : List (Nat × AObj) → Rd Out} : ∀ (f : Nat) (todo : List Nat) (acc : List (Nat × AObj)) (out : Out) (ids : List Nat), (gatherR f todo acc k).run h = some (out, ids) → (∀ q ∈ acc, look h q.1 = some q.2) →
    ∃ acc' ids', (∀ q ∈ acc', look h q.1 = some q.2) ∧ (k acc').run h = some (out, ids')
  | 0, todo, acc, out, ids, hr, _ => by cases hr
  | f + 1, todo, acc, out, ids, hr, ha => by
    simp only [gatherR] at hr
    cases todo with
    | nil => exact ⟨acc, ids, ha, hr⟩
    | cons i l =>
      simp only at hr
      cases hl : look acc i with
      | some _ => rw [hl] at hr; exact gatherR_run f l acc out ids hr ha
      | none =>
        rw [hl] at hr
        obtain ⟨o, ids', ho, hr⟩ := obj_run hr
        exact gatherR_run f _ _ out ids' hr (fun q hq => by
          rcases List.mem_append.1 hq with hq | hq
          · exact ha q hq
          · simp only [List.mem_singleton] at hq; subst hq; exact ho)
theorem hcOf_look {own : Bool} {m : Nat → Nat} {i : Nat} {oc : AObj} : ∀ {l : List (Nat × AObj)} {j : Nat}, look (hcOf own m j l) i = some oc → ∃ q, j ≤ i ∧ l[i - j]? = some q ∧ oc = viewO own m q.2 ∧ q.2.isDead = false
  | [], j, h => by cases h
  | (a, o) :: l, j, h => by
    simp only [hcOf] at h
    cases hd : o.isDead with
    | true =>
      rw [hd] at h
      obtain ⟨q, h1, h2, h3⟩ := hcOf_look h
      exact ⟨q, by omega, by rw [show i - j = (i - (j + 1)) + 1 by omega, List.getElem?_cons_succ]; exact h2, h3⟩
    | false =>
      rw [hd] at h
      simp only [cond_false, look] at h
      by_cases e : j = i
      · subst e
        rw [Nat.beq_refl] at h
        cases h
        exact ⟨(a, o), Nat.le_refl _, by simp, rfl, hd⟩
      · rw [beq_no e] at h
        obtain ⟨q, h1, h2, h3⟩ := hcOf_look h
        exact ⟨q, by omega, by rw [show i - j = (i - (j + 1)) + 1 by omega, List.getElem?_cons_succ]; exact h2, h3⟩
theorem nthOf_get : ∀ {l : List (Nat × AObj)} {i : Nat} {q : Nat × AObj}, l[i]? = some q → nthOf l i = q.1
  | [], i, q, h => by simp at h
  | (a, o) :: l, 0, q, h => by simp at h; subst h; rfl
  | (a, o) :: l, i + 1, q, h => by rw [List.getElem?_cons_succ] at h; exact nthOf_get (l := l) h
theorem chkIdx_get {acc : List (Nat × AObj)} : ∀ {l : List (Nat × AObj)} {j : Nat}, chkIdx acc j l = true → ∀ {i : Nat} {q : Nat × AObj}, l[i]? = some q → idxOf q.1 0 acc = j + i ∧ q.2.ids (chkRen acc) = true
  | [], j, _, i, q, h => by simp at h
  | (a, o) :: l, j, hc, i, q, h => by
    simp only [chkIdx, Bool.and_eq_true] at hc
    cases i with
    | zero => simp at h; subst h; exact ⟨Nat.eq_of_beq_eq_true hc.1.1, hc.1.2⟩
    | succ i =>
      rw [List.getElem?_cons_succ] at h
      obtain ⟨h1, h2⟩ := chkIdx_get hc.2 h
      exact ⟨by omega, h2⟩
theorem ownChk_look {hp' : Hp} {i : Nat} {oc : AObj} (hw : oc.own = true) : ∀ {l : Hp}, ownChk hp' l = true → look l i = some oc → ∃ o', look hp' i = some o' ∧ (o'.own = true ∨ o' = .dead)
  | [], _, h => by cases h
  | (j, o) :: l, hc, h => by
    simp only [ownChk, Bool.and_eq_true] at hc
    simp only [look] at h
    by_cases e : j = i
    · subst e
      rw [Nat.beq_refl] at h
      cases h
      have h1 := hc.1
      rw [hw] at h1
      simp only [Bool.not_true, Bool.false_or] at h1
      split at h1
      · rename_i o' ho'
        rw [Bool.or_eq_true] at h1
        exact ⟨o', ho', h1.imp id AObj.of_isDead⟩
      · cases h1
    · rw [beq_no e] at h
      exact ownChk_look hw hc.2 h
theorem conAuto_ok {f : FuncId} {fn : Func} (hm : P.follows .mixedOrders = true) (hf : P.funcs[f]? = some fn) (hname : (fn.name == "runtime.NumGoroutine") = false) (hbody : fn.body.isSome = true)
    (hC : ∀ B' g φ, C g = some φ → ConOk P B' g φ) (hcn : ∀ B' (w0 : Base), CnOk cn B' w0 fn.ntmps) (own : Bool) (B : Nat → Prop) : ConOk P B f (conAuto P C cn F own fn) := by
  obtain ⟨c0, hbody⟩ := Option.isSome_iff_exists.1 hbody
  intro args ρ h w lo out ids hr hrh hfree hfa up
  unfold conAuto at hr
  obtain ⟨acc, ids', hacc, hr⟩ := gatherR_run 60 _ _ out ids hr (fun q hq => by cases hq)
  cases hchk : (idsL (chkRen acc) args && chkIdx acc 0 acc) with
  | false => rw [hchk] at hr; cases hr
  | true =>
  rw [hchk] at hr
  simp only [cond_true] at hr
  rw [Bool.and_eq_true] at hchk
  simp only [Rd.run, forceC_eq, forceHp_eq, forceN_eq] at hr
  split at hr
  · rename_i y hy
    cases hr
    obtain ⟨s, h1, hn⟩ := evFn_nat hy
    rw [hn] at hy
    cases hk : KO acc.length s h1 with
    | none => rw [hk] at hy; cases hy
    | some x =>
      obtain ⟨r, hp'⟩ := x
      rw [hk] at hy
      simp only at hy
      cases ho : ownChk hp' (hcOf own (fun i => idxOf i 0 acc) 0 acc) with
      | false => rw [ho] at hy; cases hy
      | true =>
        rw [ho] at hy
        cases hy
        have hq : ∀ i, chkRen acc i = true → nthOf acc (idxOf i 0 acc) = i := fun i hi => by
          unfold chkRen at hi
          rw [Bool.and_eq_true] at hi
          exact Nat.eq_of_beq_eq_true hi.2
        have hl : ∀ i, chkRen acc i = true → idxOf i 0 acc < acc.length := fun i hi => by
          unfold chkRen at hi
          rw [Bool.and_eq_true] at hi
          exact blt_lt hi.1
        have hargs := renL_back hq args hchk.1
        have get : ∀ i oc, look (hcOf own (fun i => idxOf i 0 acc) 0 acc) i = some oc → ∃ q, acc[i]? = some q ∧ oc = viewO own (fun i => idxOf i 0 acc) q.2 ∧ q.2.isDead = false ∧ nthOf acc i = q.1 ∧ idxOf q.1 0 acc = i ∧ q.2.ids (chkRen acc) = true := by
          intro i oc hi
          obtain ⟨q, _, h2, h3, h4⟩ := hcOf_look hi
          have h2 : acc[i]? = some q := h2
          obtain ⟨h5, h6⟩ := chkIdx_get hchk.2 h2
          exact ⟨q, h2, h3, h4, nthOf_get h2, by omega, h6⟩
        have := con_own (B := B) hm hf hname hbody hC (p := acc.length) (fun B' w0 _ => hcn B' w0) (renL (fun i => idxOf i 0 acc) args) (nthOf acc) (hcOf own (fun i => idxOf i 0 acc) 0 acc) r hp' (by rw [hn]; exact hk) ρ h w lo hrh hfree up
          (renL_lt hl args hchk.1)
          (fun i oc hi => by
            obtain ⟨q, h2, rfl, h4, h5, h6, h7⟩ := get i oc hi
            refine ⟨(List.getElem?_eq_some_iff.1 h2).1, ?_⟩
            obtain ⟨a, o⟩ := q
            cases o with
            | cells ty c => cases own <;> exact renL_lt hl c h7
            | row ty s l => cases own <;> rfl
            | ro ty c => exact renL_lt hl c h7
            | arg s l => rfl
            | dead => rfl)
          (fun i hi => by
            have h2 := List.getElem?_eq_getElem hi
            rw [nthOf_get h2]
            exact (hfree _ _ (hacc _ (List.getElem_mem hi))).1)
          (fun i oc hi => by
            obtain ⟨q, h2, rfl, h4, h5, h6, h7⟩ := get i oc hi
            refine ⟨q.2, by rw [h5]; exact hacc q (List.mem_of_getElem? h2), ?_⟩
            obtain ⟨a, o⟩ := q
            cases o with
            | cells ty c =>
              have hb := renL_back hq c h7
              cases own with
              | true =>
                have := View.own (m := nthOf acc) ty (renL (fun i => idxOf i 0 acc) c)
                rw [hb] at this
                exact this
              | false => exact .reads (.inl (by rw [hb]))
            | row ty s l =>
              cases own with
              | true => exact .row ty s l
              | false => exact .reads (.inl ⟨ty, rfl⟩)
            | ro ty c =>
              have hb := renL_back hq c h7
              exact .reads (.inr (by rw [hb]))
            | arg s l => exact .reads (.inr rfl)
            | dead => cases h4)
          (fun i j oc oc' hi hj hij _ => by
            obtain ⟨q, _, _, _, h5, h6, _⟩ := get i oc hi
            obtain ⟨q', _, _, _, h5', h6', _⟩ := get j oc' hj
            intro e
            rw [h5, h5'] at e
            exact hij (by rw [← h6, ← h6', e]))
          (fun i oc hi hw => ownChk_look hw ho hi)
        rw [hargs] at this
        exact this
  · cases hr
end
end Go.Proofs.Ytmgfaoomdpgbhaa.Ax
