/- The document's halving: the greatest number that, times 2c, is not above a number. -/
import Derived.Test.YtogmjkmnknaieaaX0
import Derived.Test.YtogmjkmnknaieaaBitsD
import Derived.Test.YtogmjkmnknaieaaCivilA
import Derived.Test.YtogmjkmnknaieaaX2
import Derived.Test.YtogmjkmnknaieaaX4
import Derived.Test.YtogmjkmnknaieaaX5
import Derived.Test.YtogmjkmnknaieaaX6
import Derived.Test.YtogmjkmnknaieaaX7
import Derived.Test.YtogmjkmnknaieaaX8
import Derived.Test.YtogmjkmnknaieaaAx4
import Derived.Test.YtogmjkmnknaieaaAx8
import Derived.Test.YtogmjkmnknaieaaX9
namespace Go.Proofs.Ytogmjkmnknaieaa.Print
open Go.RowKit Go.Proofs.YtogmjkmnknaieaaW.PrintWords Go.Proofs.YtogmjkmnknaieaaW.PrintLast Go.Proofs.YtogmjkmnknaieaaW.PrintMore
set_option linter.unusedVariables false
set_option linter.unusedSimpArgs false
theorem cw64 {x : Int} (h1 : -9223372036854775808 ≤ x) (h2 : x ≤ 9223372036854775807) : wrap64 x = x := by unfold wrap64; omega
theorem pro_date (n : Int) : civil_Date.f n = some (dateV n) := rfl
end Go.Proofs.Ytogmjkmnknaieaa.Print
namespace Go.Proofs.Ytogmjkmnknaieaa.Print
open Go.RowKit Go.Proofs.YtogmjkmnknaieaaW.PrintWords Go.Proofs.YtogmjkmnknaieaaW.PrintLast Go.Proofs.YtogmjkmnknaieaaW.PrintMore
attribute [local go_sem] max2_int min2_int max_two min_two max_three min_three max_four min_four   -- for this text's walks alone
set_option linter.unusedVariables false
set_option linter.unusedSimpArgs false
end Go.Proofs.Ytogmjkmnknaieaa.Print
namespace Go.Proofs.Ytogmjkmnknaieaa.Print
open Go.RowKit Go.Proofs.YtogmjkmnknaieaaW.PrintWords Go.Proofs.YtogmjkmnknaieaaW.PrintLast Go.Proofs.YtogmjkmnknaieaaW.PrintMore
set_option linter.unusedVariables false
set_option linter.unusedSimpArgs false
def manyV (kd : Int) : Int := if kd = 1 then 12 else if kd = 2 then 4 else if kd = 3 then 1 else 0
def eachV (kd : Int) : Int := if kd = 1 then 1 else if kd = 2 then 3 else 12
theorem many_cases (kd : Int) : (kd = 1 ∧ manyV kd = 12 ∧ eachV kd = 1) ∨ (kd = 2 ∧ manyV kd = 4 ∧ eachV kd = 3) ∨ (kd = 3 ∧ manyV kd = 1 ∧ eachV kd = 12) ∨ (kd ≠ 1 ∧ kd ≠ 2 ∧ kd ≠ 3 ∧ manyV kd = 0) := by
  unfold manyV eachV
  by_cases h1 : kd = 1
  · simp [h1]
  · by_cases h2 : kd = 2
    · simp [h2]
    · by_cases h3 : kd = 3
      · simp [h3]
      · simp [h1, h2, h3]
theorem pro_many (kd : Int) : civil_many.f kd = some (manyV kd) := by
  unfold civil_many.f manyV
  by_cases h1 : kd = 1 <;> by_cases h2 : kd = 2 <;> by_cases h3 : kd = 3 <;> simp [h1, h2, h3]
def goodB (kd y i : Int) : Bool := inY y && (decide (1 ≤ i) && decide (i ≤ manyV kd))
theorem pro_good (kd y i : Int) : civil_Good.f kd y i = some (goodB kd y i) := by
  unfold civil_Good.f goodB
  rw [inYears_eq, pro_many]
  cases inY y <;> by_cases h : i ≥ 1 <;> simp [h] <;> omega
end Go.Proofs.Ytogmjkmnknaieaa.Print
namespace Go.Proofs.Ytogmjkmnknaieaa.Print
open Go.RowKit Go.Proofs.YtogmjkmnknaieaaW.PrintWords Go.Proofs.YtogmjkmnknaieaaW.PrintLast Go.Proofs.YtogmjkmnknaieaaW.PrintMore
attribute [local go_sem] max2_int min2_int max_two min_two max_three min_three max_four min_four   -- for this text's walks alone
set_option linter.unusedVariables false
set_option linter.unusedSimpArgs false
def civil_Of.f (a0 : Int) (a1 : Int) : Option (Int × Int × Int × Int) := (civil_Date.f a0).bind fun bt108 => (if bt108.2.2.2 = 0 then ((civil_many.f a1).bind fun t112 => (if t112 = 0 then (some (0, 0, 0, 2)) else ((civil_many.f a1).bind fun t113 => (some (a1, bt108.1, wrap64 ((wrap64 (Int.tdiv (wrap64 ((wrap64 (bt108.2.1 - 1)) * t113)) 12)) + 1), 0))))) else (some (0, 0, 0, bt108.2.2.2)))
set_option maxHeartbeats 8000000 in
set_option maxRecDepth 100000 in
theorem civil_Of.calls (a0 : Int) (a1 : Int) (r1 : Int) (r2 : Int) (r3 : Int) (r4 : Int) (w : World) (h : civil_Of.f a0 a1 = some (r1, r2, r3, r4)) :
    Calls Try.prog 31 #[.int .i64 a0, .int .i64 a1] w fun e w' => e = .returned (.tuple #[.agg #[.int .i64 r1, .int .i64 r2, .int .i64 r3], .int .i64 r4]) ∧ Below w.heap.size w w' := by
  have hu27 := Try.underlying27
  have HB := Aside0.mk (Below.refl w.heap.size w)
  have H : ((civil_Date.f a0).bind fun bt108 => (if bt108.2.2.2 = 0 then ((civil_many.f a1).bind fun t112 => (if t112 = 0 then (some (0, 0, 0, 2)) else ((civil_many.f a1).bind fun t113 => (some (a1, bt108.1, wrap64 ((wrap64 (Int.tdiv (wrap64 ((wrap64 (bt108.2.1 - 1)) * t113)) 12)) + 1), 0))))) else (some (0, 0, 0, bt108.2.2.2)))) = some (r1, r2, r3, r4) := h
  clear h
  replace H := Option.bind_eq_some_iff.mp H
  obtain ⟨⟨t108, t109, t110, t111⟩, A30, H⟩ := H
  replace H : (if t111 = 0 then ((civil_many.f a1).bind fun t112 => (if t112 = 0 then (some (0, 0, 0, 2)) else ((civil_many.f a1).bind fun t113 => (some (a1, t108, wrap64 ((wrap64 (Int.tdiv (wrap64 ((wrap64 (t109 - 1)) * t113)) 12)) + 1), 0))))) else (some (0, 0, 0, t111))) = some (r1, r2, r3, r4) := H
  have A3 := Aside0.mk A30
  clear A30
  by_cases c4 : t111 = 0
  · rw [if_pos c4] at H
    have c4b0 : (t111 == 0) = true := beq_iff_eq.mpr c4
    have c4b1 : (t111 != 0) = false := bne_eq_false_iff_eq.mpr c4
    clear c4
    replace H := Option.bind_eq_some_iff.mp H
    obtain ⟨t112, A50, H⟩ := H
    replace H : (if t112 = 0 then (some (0, 0, 0, 2)) else ((civil_many.f a1).bind fun t113 => (some (a1, t108, wrap64 ((wrap64 (Int.tdiv (wrap64 ((wrap64 (t109 - 1)) * t113)) 12)) + 1), 0)))) = some (r1, r2, r3, r4) := H
    have A5 := Aside0.mk A50
    clear A50
    by_cases c6 : t112 = 0
    · rw [if_pos c6] at H
      have c6b0 : (t112 == 0) = true := beq_iff_eq.mpr c6
      have c6b1 : (t112 != 0) = false := bne_eq_false_iff_eq.mpr c6
      clear c6
      simp only [Option.some.injEq, Prod.mk.injEq] at H
      obtain ⟨rfl, rfl, rfl, rfl⟩ := H
      go_enter Try.func31, Try.ntmps31
      go_wp2_with (first | ((with_reducible refine gate_dst (N := 4) rfl ?_); refine box_event ?hg (N := 4) ?hd (cs := #[.int .i64 0, .int .i64 0, .int .i64 0]) (t := 27) ?hr ?_; (case hd => rfl); (case hg => rfl); (case hr => first | (go_simp; done) | (go_simp; rfl)); intro gb107 hg w7 hbox hb; have n0_ := Aside0.mk (below_step (by repeat (first | (with_reducible first | exact HB.out | apply below_alloc | apply pw_below_drewN | apply below_drew1) | exact HB.out)) hb); have n1_ := Aside0.mk (hbox); have n2_ := Aside0.mk ((by rw [hg]; exact (below_size (by repeat (first | (with_reducible first | exact HB.out | apply below_alloc | apply pw_below_drewN | apply below_drew1) | exact HB.out))) : w.heap.size ≤ gb107)); have n3_ := Aside0.mk ((by rw [hg]; exact (below_size (by repeat (first | (with_reducible first | exact HB.out | apply below_alloc | apply pw_below_drewN | apply below_drew1) | exact HB.out))) : w.heap.size ≤ gb107)); clear HB; have HB := n0_; have BK107 := n1_; have GW107 := n2_; have GE107 := n3_; clear n0_ n1_ n2_ n3_; clear hb hbox hg) | ((with_reducible refine gate_callee (f := 47) rfl ?_); refine goesL_ (some 12) rfl rfl Try.func47 (by kernel_rfl) rfl #[.int .i64 a0] rfl (by (try simp only [List.map_toArray, List.map_cons, List.map_nil]); first | done | rfl | (simp only [List.length_drop, List.length_take]; rfl)) ?_; (with_reducible refine (civil_Date.calls a0 t108 t109 t110 t111 _ A3.out).mono ?_); rintro e w8 ⟨rfl, hb⟩; refine ⟨_, rfl, ?_⟩; have n0_ := Aside0.mk (blk_below (g := gb107) (o := .cells #[.int .i64 0, .int .i64 0, .int .i64 0] 27 (0, 0)) (by (with_reducible repeat (first | refine blk_drewN ?_ _ | refine blk_drew ?_ | refine blk_alloc ?_ _)); exact BK107.out) hb); have n1_ := Aside0.mk (below_step (by repeat (first | (with_reducible first | exact HB.out | apply below_alloc | apply pw_below_drewN | apply below_drew1 | refine below_set ?_ GE107.out) | exact HB.out)) hb); clear BK107; clear HB; have BK107 := n0_; have HB := n1_; clear n0_ n1_; (try clear hb); (try clear hb2); (try clear hk); (try clear hi)) | ((with_reducible refine gate_callee (f := 30) rfl ?_); refine goesL_ (some 24) rfl rfl Try.func30 (by kernel_rfl) rfl #[.int .i64 a1] rfl (by (try simp only [List.map_toArray, List.map_cons, List.map_nil]); first | done | rfl | (simp only [List.length_drop, List.length_take]; rfl)) ?_; (with_reducible refine (civil_many.calls a1 t112 _ A5.out).mono ?_); rintro e w' ⟨rfl, ⟨nd, rfl⟩⟩; refine ⟨_, rfl, ?_⟩; (try (rw [drewN_self w8]; generalize hq_ : World.drewN w8 _ = w8; have n0_ : Aside0 (w8.heap[gb107]? = some (.cells #[.int .i64 0, .int .i64 0, .int .i64 0] 27 (0, 0))) := ⟨by rw [← hq_]; exact (by (with_reducible repeat (first | refine blk_drewN ?_ _ | refine blk_drew ?_ | refine blk_alloc ?_ _)); exact BK107.out)⟩; have n1_ : Aside0 (Below w.heap.size w w8) := ⟨by rw [← hq_]; exact (by repeat (first | (with_reducible first | exact HB.out | apply below_alloc | apply pw_below_drewN | apply below_drew1 | refine below_set ?_ GE107.out) | exact HB.out))⟩; clear BK107 HB hq_; have BK107 := n0_; have HB := n1_; clear n0_ n1_)); have hcz9_0 : w8.cell? ⟨gb107, 0, none⟩ = some (.int .i64 0) := (blk_cell BK107.out 0).trans rfl; have hcz9_1 : w8.cell? ⟨gb107, 1, none⟩ = some (.int .i64 0) := (blk_cell BK107.out 1).trans rfl; have hcz9_2 : w8.cell? ⟨gb107, 2, none⟩ = some (.int .i64 0) := (blk_cell BK107.out 2).trans rfl; have hfz9_0 := blk_frozen BK107.out 0; have hfz9_1 := blk_frozen BK107.out 1; have hfz9_2 := blk_frozen BK107.out 2))
      refine bodyPost_ret (results_ct rfl _ _ gb107 27 #[.int .i64 0, .int .i64 0, .int .i64 0] (0, 0) _ rfl (by (with_reducible repeat (first | refine blk_drewN ?_ _ | refine blk_drew ?_ | refine blk_alloc ?_ _)); refine blk_put (cs := #[.int .i64 0, .int .i64 0, .int .i64 0]) ?_ 2 _ rfl; (with_reducible repeat (first | refine blk_drewN ?_ _ | refine blk_drew ?_ | refine blk_alloc ?_ _)); refine blk_put (cs := #[.int .i64 0, .int .i64 0, .int .i64 0]) ?_ 1 _ rfl; (with_reducible repeat (first | refine blk_drewN ?_ _ | refine blk_drew ?_ | refine blk_alloc ?_ _)); refine blk_put (cs := #[.int .i64 0, .int .i64 0, .int .i64 0]) ?_ 0 _ rfl; (with_reducible repeat (first | refine blk_drewN ?_ _ | refine blk_drew ?_ | refine blk_alloc ?_ _)); exact BK107.out) Try.underlying27 rfl (by kernel_rfl)) rfl ?_
      exact ⟨by first | rfl | (simp [errW_none, errW_some] <;> rfl) | (simp [*, errW_none, errW_some] <;> rfl), by repeat (first | (with_reducible first | exact HB.out | apply below_alloc | apply pw_below_drewN | apply below_drew1 | refine below_set ?_ GE107.out) | exact HB.out)⟩
    · rw [if_neg c6] at H
      have c6b0 : (t112 == 0) = false := beq_eq_false_iff_ne.mpr c6
      have c6b1 : (t112 != 0) = true := bne_iff_ne.mpr c6
      replace H := Option.bind_eq_some_iff.mp H
      obtain ⟨t113, A100, H⟩ := H
      replace H : (some (a1, t108, wrap64 ((wrap64 (Int.tdiv (wrap64 ((wrap64 (t109 - 1)) * t113)) 12)) + 1), 0)) = some (r1, r2, r3, r4) := H
      have A10 := Aside0.mk A100
      clear A100
      simp only [Option.some.injEq, Prod.mk.injEq] at H
      obtain ⟨rfl, rfl, rfl, rfl⟩ := H
      go_enter Try.func31, Try.ntmps31
      go_wp2_with (first | ((with_reducible refine gate_dst (N := 4) rfl ?_); refine box_event ?hg (N := 4) ?hd (cs := #[.int .i64 0, .int .i64 0, .int .i64 0]) (t := 27) ?hr ?_; (case hd => rfl); (case hg => rfl); (case hr => first | (go_simp; done) | (go_simp; rfl)); intro gb107 hg w11 hbox hb; have n0_ := Aside0.mk (below_step (by repeat (first | (with_reducible first | exact HB.out | apply below_alloc | apply pw_below_drewN | apply below_drew1) | exact HB.out)) hb); have n1_ := Aside0.mk (hbox); have n2_ := Aside0.mk ((by rw [hg]; exact (below_size (by repeat (first | (with_reducible first | exact HB.out | apply below_alloc | apply pw_below_drewN | apply below_drew1) | exact HB.out))) : w.heap.size ≤ gb107)); have n3_ := Aside0.mk ((by rw [hg]; exact (below_size (by repeat (first | (with_reducible first | exact HB.out | apply below_alloc | apply pw_below_drewN | apply below_drew1) | exact HB.out))) : w.heap.size ≤ gb107)); clear HB; have HB := n0_; have BK107 := n1_; have GW107 := n2_; have GE107 := n3_; clear n0_ n1_ n2_ n3_; clear hb hbox hg) | ((with_reducible refine gate_callee (f := 47) rfl ?_); refine goesL_ (some 12) rfl rfl Try.func47 (by kernel_rfl) rfl #[.int .i64 a0] rfl (by (try simp only [List.map_toArray, List.map_cons, List.map_nil]); first | done | rfl | (simp only [List.length_drop, List.length_take]; rfl)) ?_; (with_reducible refine (civil_Date.calls a0 t108 t109 t110 t111 _ A3.out).mono ?_); rintro e w12 ⟨rfl, hb⟩; refine ⟨_, rfl, ?_⟩; have n0_ := Aside0.mk (blk_below (g := gb107) (o := .cells #[.int .i64 0, .int .i64 0, .int .i64 0] 27 (0, 0)) (by (with_reducible repeat (first | refine blk_drewN ?_ _ | refine blk_drew ?_ | refine blk_alloc ?_ _)); exact BK107.out) hb); have n1_ := Aside0.mk (below_step (by repeat (first | (with_reducible first | exact HB.out | apply below_alloc | apply pw_below_drewN | apply below_drew1 | refine below_set ?_ GE107.out) | exact HB.out)) hb); clear BK107; clear HB; have BK107 := n0_; have HB := n1_; clear n0_ n1_; (try clear hb); (try clear hb2); (try clear hk); (try clear hi)) | ((with_reducible refine gate_callee (f := 30) rfl ?_); refine goesL_ (some 24) rfl rfl Try.func30 (by kernel_rfl) rfl #[.int .i64 a1] rfl (by (try simp only [List.map_toArray, List.map_cons, List.map_nil]); first | done | rfl | (simp only [List.length_drop, List.length_take]; rfl)) ?_; (with_reducible refine (civil_many.calls a1 t112 _ A5.out).mono ?_); rintro e w' ⟨rfl, ⟨nd, rfl⟩⟩; refine ⟨_, rfl, ?_⟩; (try (rw [drewN_self w12]; generalize hq_ : World.drewN w12 _ = w12; have n0_ : Aside0 (w12.heap[gb107]? = some (.cells #[.int .i64 0, .int .i64 0, .int .i64 0] 27 (0, 0))) := ⟨by rw [← hq_]; exact (by (with_reducible repeat (first | refine blk_drewN ?_ _ | refine blk_drew ?_ | refine blk_alloc ?_ _)); exact BK107.out)⟩; have n1_ : Aside0 (Below w.heap.size w w12) := ⟨by rw [← hq_]; exact (by repeat (first | (with_reducible first | exact HB.out | apply below_alloc | apply pw_below_drewN | apply below_drew1 | refine below_set ?_ GE107.out) | exact HB.out))⟩; clear BK107 HB hq_; have BK107 := n0_; have HB := n1_; clear n0_ n1_))) | ((with_reducible refine gate_callee (f := 30) rfl ?_); refine goesL_ (some 32) rfl rfl Try.func30 (by kernel_rfl) rfl #[.int .i64 a1] rfl (by (try simp only [List.map_toArray, List.map_cons, List.map_nil]); first | done | rfl | (simp only [List.length_drop, List.length_take]; rfl)) ?_; (with_reducible refine (civil_many.calls a1 t113 _ A10.out).mono ?_); rintro e w' ⟨rfl, ⟨nd, rfl⟩⟩; refine ⟨_, rfl, ?_⟩; (try (rw [drewN_self w12]; generalize hq_ : World.drewN w12 _ = w12; have n0_ : Aside0 (w12.heap[gb107]? = some (.cells #[.int .i64 0, .int .i64 0, .int .i64 0] 27 (0, 0))) := ⟨by rw [← hq_]; exact (by (with_reducible repeat (first | refine blk_drewN ?_ _ | refine blk_drew ?_ | refine blk_alloc ?_ _)); exact BK107.out)⟩; have n1_ : Aside0 (Below w.heap.size w w12) := ⟨by rw [← hq_]; exact (by repeat (first | (with_reducible first | exact HB.out | apply below_alloc | apply pw_below_drewN | apply below_drew1 | refine below_set ?_ GE107.out) | exact HB.out))⟩; clear BK107 HB hq_; have BK107 := n0_; have HB := n1_; clear n0_ n1_)); have hcz13_0 : w12.cell? ⟨gb107, 0, none⟩ = some (.int .i64 0) := (blk_cell BK107.out 0).trans rfl; have hcz13_1 : w12.cell? ⟨gb107, 1, none⟩ = some (.int .i64 0) := (blk_cell BK107.out 1).trans rfl; have hcz13_2 : w12.cell? ⟨gb107, 2, none⟩ = some (.int .i64 0) := (blk_cell BK107.out 2).trans rfl; have hfz13_0 := blk_frozen BK107.out 0; have hfz13_1 := blk_frozen BK107.out 1; have hfz13_2 := blk_frozen BK107.out 2))
      refine bodyPost_ret (results_ct rfl _ _ gb107 27 #[.int .i64 a1, .int .i64 t108, .int .i64 (wrap64 ((wrap64 (Int.tdiv (wrap64 ((wrap64 (t109 - 1)) * t113)) 12)) + 1))] (0, 0) _ rfl (by (with_reducible repeat (first | refine blk_drewN ?_ _ | refine blk_drew ?_ | refine blk_alloc ?_ _)); refine blk_put (cs := #[.int .i64 a1, .int .i64 t108, .int .i64 0]) ?_ 2 _ rfl; (with_reducible repeat (first | refine blk_drewN ?_ _ | refine blk_drew ?_ | refine blk_alloc ?_ _)); refine blk_put (cs := #[.int .i64 a1, .int .i64 0, .int .i64 0]) ?_ 1 _ rfl; (with_reducible repeat (first | refine blk_drewN ?_ _ | refine blk_drew ?_ | refine blk_alloc ?_ _)); refine blk_put (cs := #[.int .i64 0, .int .i64 0, .int .i64 0]) ?_ 0 _ rfl; (with_reducible repeat (first | refine blk_drewN ?_ _ | refine blk_drew ?_ | refine blk_alloc ?_ _)); exact BK107.out) Try.underlying27 rfl (by kernel_rfl)) rfl ?_
      exact ⟨by first | rfl | (simp [errW_none, errW_some] <;> rfl) | (simp [*, errW_none, errW_some] <;> rfl), by repeat (first | (with_reducible first | exact HB.out | apply below_alloc | apply pw_below_drewN | apply below_drew1 | refine below_set ?_ GE107.out) | exact HB.out)⟩
  · rw [if_neg c4] at H
    have c4b0 : (t111 == 0) = false := beq_eq_false_iff_ne.mpr c4
    have c4b1 : (t111 != 0) = true := bne_iff_ne.mpr c4
    simp only [Option.some.injEq, Prod.mk.injEq] at H
    obtain ⟨rfl, rfl, rfl, rfl⟩ := H
    go_enter Try.func31, Try.ntmps31
    go_wp2_with (first | ((with_reducible refine gate_dst (N := 4) rfl ?_); refine box_event ?hg (N := 4) ?hd (cs := #[.int .i64 0, .int .i64 0, .int .i64 0]) (t := 27) ?hr ?_; (case hd => rfl); (case hg => rfl); (case hr => first | (go_simp; done) | (go_simp; rfl)); intro gb107 hg w14 hbox hb; have n0_ := Aside0.mk (below_step (by repeat (first | (with_reducible first | exact HB.out | apply below_alloc | apply pw_below_drewN | apply below_drew1) | exact HB.out)) hb); have n1_ := Aside0.mk (hbox); have n2_ := Aside0.mk ((by rw [hg]; exact (below_size (by repeat (first | (with_reducible first | exact HB.out | apply below_alloc | apply pw_below_drewN | apply below_drew1) | exact HB.out))) : w.heap.size ≤ gb107)); have n3_ := Aside0.mk ((by rw [hg]; exact (below_size (by repeat (first | (with_reducible first | exact HB.out | apply below_alloc | apply pw_below_drewN | apply below_drew1) | exact HB.out))) : w.heap.size ≤ gb107)); clear HB; have HB := n0_; have BK107 := n1_; have GW107 := n2_; have GE107 := n3_; clear n0_ n1_ n2_ n3_; clear hb hbox hg) | ((with_reducible refine gate_callee (f := 47) rfl ?_); refine goesL_ (some 12) rfl rfl Try.func47 (by kernel_rfl) rfl #[.int .i64 a0] rfl (by (try simp only [List.map_toArray, List.map_cons, List.map_nil]); first | done | rfl | (simp only [List.length_drop, List.length_take]; rfl)) ?_; (with_reducible refine (civil_Date.calls a0 t108 t109 t110 t111 _ A3.out).mono ?_); rintro e w15 ⟨rfl, hb⟩; refine ⟨_, rfl, ?_⟩; have n0_ := Aside0.mk (blk_below (g := gb107) (o := .cells #[.int .i64 0, .int .i64 0, .int .i64 0] 27 (0, 0)) (by (with_reducible repeat (first | refine blk_drewN ?_ _ | refine blk_drew ?_ | refine blk_alloc ?_ _)); exact BK107.out) hb); have n1_ := Aside0.mk (below_step (by repeat (first | (with_reducible first | exact HB.out | apply below_alloc | apply pw_below_drewN | apply below_drew1 | refine below_set ?_ GE107.out) | exact HB.out)) hb); clear BK107; clear HB; have BK107 := n0_; have HB := n1_; clear n0_ n1_; (try clear hb); (try clear hb2); (try clear hk); (try clear hi); have hcz16_0 : w15.cell? ⟨gb107, 0, none⟩ = some (.int .i64 0) := (blk_cell BK107.out 0).trans rfl; have hcz16_1 : w15.cell? ⟨gb107, 1, none⟩ = some (.int .i64 0) := (blk_cell BK107.out 1).trans rfl; have hcz16_2 : w15.cell? ⟨gb107, 2, none⟩ = some (.int .i64 0) := (blk_cell BK107.out 2).trans rfl; have hfz16_0 := blk_frozen BK107.out 0; have hfz16_1 := blk_frozen BK107.out 1; have hfz16_2 := blk_frozen BK107.out 2))
    refine bodyPost_ret (results_ct rfl _ _ gb107 27 #[.int .i64 0, .int .i64 0, .int .i64 0] (0, 0) _ rfl (by (with_reducible repeat (first | refine blk_drewN ?_ _ | refine blk_drew ?_ | refine blk_alloc ?_ _)); refine blk_put (cs := #[.int .i64 0, .int .i64 0, .int .i64 0]) ?_ 2 _ rfl; (with_reducible repeat (first | refine blk_drewN ?_ _ | refine blk_drew ?_ | refine blk_alloc ?_ _)); refine blk_put (cs := #[.int .i64 0, .int .i64 0, .int .i64 0]) ?_ 1 _ rfl; (with_reducible repeat (first | refine blk_drewN ?_ _ | refine blk_drew ?_ | refine blk_alloc ?_ _)); refine blk_put (cs := #[.int .i64 0, .int .i64 0, .int .i64 0]) ?_ 0 _ rfl; (with_reducible repeat (first | refine blk_drewN ?_ _ | refine blk_drew ?_ | refine blk_alloc ?_ _)); exact BK107.out) Try.underlying27 rfl (by kernel_rfl)) rfl ?_
    exact ⟨by first | rfl | (simp [errW_none, errW_some] <;> rfl) | (simp [*, errW_none, errW_some] <;> rfl), by repeat (first | (with_reducible first | exact HB.out | apply below_alloc | apply pw_below_drewN | apply below_drew1 | refine below_set ?_ GE107.out) | exact HB.out)⟩
end Go.Proofs.Ytogmjkmnknaieaa.Print
namespace Go.Proofs.Ytogmjkmnknaieaa.Print
open Go.RowKit Go.Proofs.YtogmjkmnknaieaaW.PrintWords Go.Proofs.YtogmjkmnknaieaaW.PrintLast Go.Proofs.YtogmjkmnknaieaaW.PrintMore
set_option linter.unusedVariables false
set_option linter.unusedSimpArgs false
theorem date_bd (n : Int) (h : (dateV n).2.2.2 = 0) : (0 ≤ n ∧ n ≤ 2932896) ∧ (dateV n).1 = yearV n ∧ (dateV n).2.1 = (monthV (leapB (yearV n)) (n - begV (yearV n)) : Int) := by
  unfold dateV at h ⊢
  by_cases hr : 0 ≤ n ∧ n ≤ 2932896
  · rw [if_pos hr] at h ⊢; exact ⟨hr, rfl, rfl⟩
  · rw [if_neg hr] at h; simp at h
def ofV (n kd : Int) : Int × Int × Int × Int :=
  if (dateV n).2.2.2 = 0 then (if manyV kd = 0 then (0, 0, 0, 2) else (kd, (dateV n).1, ((dateV n).2.1 - 1) / eachV kd + 1, 0)) else (0, 0, 0, (dateV n).2.2.2)
theorem month_of (n : Int) (h : (dateV n).2.2.2 = 0) : 1 ≤ (dateV n).2.1 ∧ (dateV n).2.1 ≤ 12 ∧ 1970 ≤ (dateV n).1 ∧ (dateV n).1 ≤ 9999 := by
  obtain ⟨hr, h1, h2⟩ := date_bd n h
  have ys := year_spec n hr.1 hr.2
  have hs := beg_succ (yearV n) ys.1 ys.2.1
  have hlast : n - begV (yearV n) < cumV (leapB (yearV n)) 12 := by
    rw [cum_last]; unfold daysV at hs; omega
  have ms := month_spec (leapB (yearV n)) (n - begV (yearV n)) (by omega) hlast
  rw [h1, h2]; omega
theorem each_many (m kd : Int) (h1 : 1 ≤ m) (h2 : m ≤ 12) (h : manyV kd ≠ 0) : (m - 1) * manyV kd / 12 = (m - 1) / eachV kd ∧ 0 ≤ (m - 1) * manyV kd ∧ (m - 1) * manyV kd ≤ 132 ∧ 0 ≤ (m - 1) / eachV kd ∧ (m - 1) / eachV kd ≤ 11 := by
  rcases many_cases kd with ⟨_, e2, e3⟩ | ⟨_, e2, e3⟩ | ⟨_, e2, e3⟩ | ⟨_, _, _, e2⟩
  · rw [e2, e3]; omega
  · rw [e2, e3]; omega
  · rw [e2, e3]; omega
  · exact absurd e2 h
theorem pro_of (n kd : Int) : civil_Of.f n kd = some (ofV n kd) := by
  unfold civil_Of.f ofV
  rw [pro_date]
  simp only [Option.bind_some, pro_many]
  by_cases h : (dateV n).2.2.2 = 0
  · rw [if_pos h, if_pos h]
    have hm := month_of n h
    by_cases hk : manyV kd = 0
    · rw [if_pos hk, if_pos hk]
    · have he := each_many (dateV n).2.1 kd hm.1 hm.2.1 hk
      rw [if_neg hk, if_neg hk, cw64 (x := (dateV n).2.1 - 1) (by omega) (by omega), cw64 (x := ((dateV n).2.1 - 1) * manyV kd) (by omega) (by omega), Int.tdiv_eq_ediv_of_nonneg he.2.1, he.1, cw64 (x := ((dateV n).2.1 - 1) / eachV kd) (by omega) (by omega), cw64 (by omega) (by omega)]
  · rw [if_neg h, if_neg h]
end Go.Proofs.Ytogmjkmnknaieaa.Print
namespace Go.Proofs.Ytogmjkmnknaieaa.Print
open Go.RowKit Go.Proofs.YtogmjkmnknaieaaW.PrintWords Go.Proofs.YtogmjkmnknaieaaW.PrintLast Go.Proofs.YtogmjkmnknaieaaW.PrintMore
set_option linter.unusedVariables false
set_option linter.unusedSimpArgs false
theorem q4 {a b c d b' c' : Int} (h1 : b = b') (h2 : c = c') : (a, b, c, d) = (a, b', c', d) := by rw [h1, h2]
end Go.Proofs.Ytogmjkmnknaieaa.Print
namespace Go.Proofs.Ytogmjkmnknaieaa.Print
open Go.RowKit Go.Proofs.YtogmjkmnknaieaaW.PrintWords Go.Proofs.YtogmjkmnknaieaaW.PrintLast Go.Proofs.YtogmjkmnknaieaaW.PrintMore
set_option linter.unusedVariables false
set_option linter.unusedSimpArgs false
theorem rd_nat (l : List Int) (n : Nat) : rd l (n : Int) = l.getD n 0 := by unfold rd; rw [Int.toNat_natCast]
theorem rd_mem (l : List Int) (n : Nat) (h : n < l.length) : rd l (n : Int) ∈ l := by
  rw [rd_nat, List.getD_eq_getElem?_getD, List.getElem?_eq_getElem h, Option.getD_some]
  exact List.getElem_mem h
def Dig (l : List Int) : Prop := ∀ d ∈ l, 0 ≤ d ∧ d < 2147483648
def dval : List Int → Int
  | [] => 0
  | d :: l => d + 2147483648 * dval l
def NZ : List Int → Prop
  | [] => True
  | d :: l => if l = [] then d ≠ 0 else NZ l
theorem NZ.tail {d : Int} {l : List Int} (h : NZ (d :: l)) : NZ l := by
  cases l with
  | nil => simp [NZ]
  | cons => simpa [NZ] using h
theorem Dig.nil : Dig [] := by intro d h; cases h
theorem Dig.cons {d : Int} {l : List Int} : Dig (d :: l) ↔ (0 ≤ d ∧ d < 2147483648) ∧ Dig l := by simp [Dig]
theorem Dig.append {l m : List Int} : Dig (l ++ m) ↔ Dig l ∧ Dig m := by
  constructor
  · intro h
    exact ⟨fun d hd => h d (by simp [hd]), fun d hd => h d (by simp [hd])⟩
  · intro h d hd
    rcases List.mem_append.1 hd with k | k
    · exact h.1 d k
    · exact h.2 d k
theorem Dig.drop {l : List Int} (h : Dig l) (n : Nat) : Dig (l.drop n) := fun d hd => h d (List.mem_of_mem_drop hd)
theorem Dig.take {l : List Int} (h : Dig l) (n : Nat) : Dig (l.take n) := fun d hd => h d (List.mem_of_mem_take hd)
theorem Dig.rd {l : List Int} (h : Dig l) (n : Nat) (hn : n < l.length) : 0 ≤ rd l (n : Int) ∧ rd l (n : Int) < 2147483648 := h _ (rd_mem l n hn)
theorem dval_0 {l : List Int} (h : Dig l) : 0 ≤ dval l := by
  induction l with
  | nil => simp [dval]
  | cons d l ih =>
    have := ih (Dig.cons.1 h).2
    have := (Dig.cons.1 h).1
    simp only [dval]; omega
theorem dval_lt {l : List Int} (h : Dig l) : dval l < 2147483648 ^ l.length := by
  induction l with
  | nil => simp [dval]
  | cons d l ih =>
    have := ih (Dig.cons.1 h).2
    have := (Dig.cons.1 h).1
    simp only [dval, List.length_cons, Int.pow_succ]; omega
theorem dval_ge {l : List Int} (h : Dig l) (hz : NZ l) (hn : l ≠ []) : 2147483648 ^ (l.length - 1) ≤ dval l := by
  induction l with
  | nil => exact absurd rfl hn
  | cons d l ih =>
    have hd := (Dig.cons.1 h).1
    cases l with
    | nil =>
      simp [NZ] at hz
      simp [dval]; omega
    | cons e l =>
      have := ih (Dig.cons.1 h).2 (by simpa [NZ] using hz) (by simp)
      simp only [List.length_cons, Nat.add_sub_cancel] at this ⊢
      simp only [dval, Int.pow_succ] at this ⊢
      omega
theorem pow_le {m n : Nat} (h : m ≤ n) : (2147483648 : Int) ^ m ≤ 2147483648 ^ n := by
  obtain ⟨k, rfl⟩ := Nat.exists_eq_add_of_le h
  induction k with
  | zero => simp
  | succ k ih =>
    have := ih (by omega)
    rw [← Nat.add_assoc, Int.pow_succ]
    have h0 : (0 : Int) < 2147483648 ^ (m + k) := Int.pow_pos (by decide)
    omega
theorem longer {a b : List Int} (ha : Dig a) (hb : Dig b) (hz : NZ b) (h : a.length < b.length) : dval a < dval b := by
  have h1 := dval_lt ha
  have h2 := dval_ge hb hz (by intro e; rw [e] at h; simp at h)
  have h3 := pow_le (m := a.length) (n := b.length - 1) (by omega)
  omega
structure IsNum (n : Bool) (l : List Int) (v : Int) : Prop where
  dig : Dig l
  nz : NZ l
  pos : n = true → 0 < dval l
  val : v = if n = true then -dval l else dval l
theorem IsNum.neg {n : Bool} {l : List Int} {v : Int} (h : IsNum n l v) : n = decide (v < 0) := by
  have h0 := dval_0 h.dig
  have hv := h.val
  cases n with
  | true => have := h.pos rfl; simp at hv; simp; omega
  | false => simp at hv; simp; omega
theorem IsNum.zero : IsNum false [] 0 := ⟨Dig.nil, by simp [NZ], by simp, by simp [dval]⟩
end Go.Proofs.Ytogmjkmnknaieaa.Print
namespace Go.Proofs.Ytogmjkmnknaieaa.Print
open Go.RowKit Go.Proofs.YtogmjkmnknaieaaW.PrintWords Go.Proofs.YtogmjkmnknaieaaW.PrintLast Go.Proofs.YtogmjkmnknaieaaW.PrintMore
set_option linter.unusedVariables false
set_option linter.unusedSimpArgs false
theorem Dig.set {l : List Int} (h : Dig l) (j : Nat) (v : Int) (hv : 0 ≤ v ∧ v < 2147483648) : Dig (l.set j v) := by
  intro d hd
  rcases List.mem_or_eq_of_mem_set hd with hd | hd
  · exact h d hd
  · subst hd; exact hv
section
variable (n1 n2 : Bool) (a b : List Int) (ha : Dig a) (hb : Dig b) (la : a.length ≤ 1000000) (lb : b.length ≤ 1000000)
include ha hb la lb
end
end Go.Proofs.Ytogmjkmnknaieaa.Print
namespace Go.Proofs.Ytogmjkmnknaieaa.Print
open Go.RowKit Go.Proofs.YtogmjkmnknaieaaW.PrintWords Go.Proofs.YtogmjkmnknaieaaW.PrintLast Go.Proofs.YtogmjkmnknaieaaW.PrintMore
set_option linter.unusedVariables false
set_option linter.unusedSimpArgs false
set_option linter.unusedSectionVars false
section
variable (n dn : Bool) (l dl : List Int) (v D : Int) (hn : IsNum n l v) (hd : IsNum dn dl D) (ln : l.length ≤ 1000000) (ld : dl.length ≤ 1000) (hD : 0 < D)
include hn hd ln ld hD
end
end Go.Proofs.Ytogmjkmnknaieaa.Print
