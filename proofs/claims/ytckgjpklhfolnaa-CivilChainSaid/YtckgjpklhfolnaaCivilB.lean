/- The walk of civil.Cmp (a function value, arrays), in the printed functions' form. -/
import Derived.Outline
import Derived.Lib.Hide
import Derived.LoopN
import Derived.Deep.QuietTactic
import Derived.BigQuiet
import Derived.Deep.RegionHeld3
import Derived.Deep.DeepCutAuto
import Derived.Test.YtckgjpklhfolnaaX0
import Derived.Test.YtckgjpklhfolnaaX1
import Derived.Test.YtckgjpklhfolnaaX11
import Derived.Test.YtckgjpklhfolnaaX4
import Derived.Test.YtckgjpklhfolnaaX9
namespace Go.Proofs.Ytckgjpklhfolnaa.Print
open Go.RowKit Go.Proofs.YtckgjpklhfolnaaW.PrintWords Go.Proofs.YtckgjpklhfolnaaW.PrintLast Go.Proofs.YtckgjpklhfolnaaW.PrintMore
set_option linter.unusedVariables false
set_option linter.unusedSimpArgs false

theorem bcellB {W w1 : World} (hb : Below W.heap.size W w1) : (∀ b o, b < W.heap.size → w1.cell? ⟨b, o, none⟩ = W.cell? ⟨b, o, none⟩) ∧ (∀ b o, b < W.heap.size → w1.frozen? ⟨b, o, none⟩ = W.frozen? ⟨b, o, none⟩) :=
  ⟨fun b o h => hb.cell (p := ⟨b, o, none⟩) h, fun b o h => hb.frozen (p := ⟨b, o, none⟩) h⟩
set_option maxHeartbeats 1000000 in
theorem ends_any (p0 p1 p2 a b c d : Int) (w : World) (h1 : civil_First.f p0 p1 p2 = some (a, b)) (h2 : civil_Last.f p0 p1 p2 = some (c, d)) :
    Calls Try.prog 39 #[.agg #[.int .i64 p0, .int .i64 p1, .int .i64 p2]] w fun e w' => e = .returned (.agg #[.int .i64 a, .int .i64 c]) ∧ Below w.heap.size w w' := by
  have H1 := Aside0.mk h1
  have H2 := Aside0.mk h2
  clear h1 h2
  go_enter Try.func39, Try.ntmps39
  go_wp2_with (first | (go_at_call 17; (with_reducible refine (civil_First.calls _ _ _ _ _ _ H1.out).mono ?_); rintro e w1 ⟨rfl, hb1⟩; obtain ⟨hc1, hf1⟩ := bcellB hb1; have hz1 : w.heap.size + 1 < w1.heap.size := by (have := hb1.size; simp at this; omega)) | (go_at_call 19; (with_reducible refine (civil_Last.calls _ _ _ _ _ _ H2.out).mono ?_); rintro e w2 ⟨rfl, hb2⟩; obtain ⟨hc2, hf2⟩ := bcellB hb2; have hz2 : w.heap.size + 1 < w2.heap.size := Nat.lt_of_lt_of_le hz1 hb2.size))
  refine bodyPost_ret (v := .agg #[.int .i64 a, .int .i64 c]) (by simp [results, Try.results39, go_sem, hc1, hc2, hz1, hz2]) rfl ⟨rfl, ?_⟩
  have HB1 : Below w.heap.size w w1 := below_step (((Below.refl _ _).alloc (Nat.le_refl _) _).alloc (by simp) _) hb1
  exact ((below_step HB1 hb2).setCell (by simp) _).setCell (by simp) _
set_option maxHeartbeats 1000000 in
theorem cmp_same (a0 a1 a2 : Int) (w : World) :
    Calls Try.prog 28 #[.agg #[.int .i64 a0, .int .i64 a1, .int .i64 a2], .agg #[.int .i64 a0, .int .i64 a1, .int .i64 a2]] w fun e w' => e = .returned (.int .i64 0) ∧ Below w.heap.size w w' := by
  have he := eqA36
  go_enter Try.func28, Try.ntmps28
  go_wp2_with fail
  go_ret
  exact ⟨rfl, ((Below.refl _ _).alloc (Nat.le_refl _) _).alloc (by simp) _⟩
attribute [local go_sem high] eqA36
structure BoxAt (n : Nat) (a0 a1 a2 b0 b1 b2 : Int) (w : World) : Prop where
  k0 : w.cell? ⟨n, 0, none⟩ = some (.int .i64 a0)
  k1 : w.cell? ⟨n, 1, none⟩ = some (.int .i64 a1)
  k2 : w.cell? ⟨n, 2, none⟩ = some (.int .i64 a2)
  l0 : w.cell? ⟨n + 1, 0, none⟩ = some (.int .i64 b0)
  l1 : w.cell? ⟨n + 1, 1, none⟩ = some (.int .i64 b1)
  l2 : w.cell? ⟨n + 1, 2, none⟩ = some (.int .i64 b2)
  sz : n + 1 < w.heap.size
theorem BoxAt.next {n : Nat} {a0 a1 a2 b0 b1 b2 : Int} {w w1 : World} (h : BoxAt n a0 a1 a2 b0 b1 b2 w) (hb : Below w.heap.size w w1) : BoxAt n a0 a1 a2 b0 b1 b2 w1 := by
  obtain ⟨hc, hf⟩ := bcellB hb
  have h1 : n < w.heap.size := by have := h.sz; omega
  exact ⟨(hc _ _ h1).trans h.k0, (hc _ _ h1).trans h.k1, (hc _ _ h1).trans h.k2, (hc _ _ h.sz).trans h.l0, (hc _ _ h.sz).trans h.l1, (hc _ _ h.sz).trans h.l2, Nat.lt_of_lt_of_le h.sz hb.size⟩
theorem BoxAt.drew {n : Nat} {a0 a1 a2 b0 b1 b2 : Int} {w : World} (h : BoxAt n a0 a1 a2 b0 b1 b2 w) : BoxAt n a0 a1 a2 b0 b1 b2 w.drew := ⟨h.k0, h.k1, h.k2, h.l0, h.l1, h.l2, h.sz⟩
theorem BoxAt.alloc {n : Nat} {a0 a1 a2 b0 b1 b2 : Int} {w : World} (h : BoxAt n a0 a1 a2 b0 b1 b2 w) (o : Obj) : BoxAt n a0 a1 a2 b0 b1 b2 (w.alloc o) := h.next ((Below.refl _ _).alloc (Nat.le_refl _) _)
def EndsCut (w : World) (x p y q : Int) (s6 s7 : Value) (wx : World) : Prop := ∃ g h : Nat, s6 = .pointer (some ⟨g, 0, none⟩) ∧ s7 = .pointer (some ⟨h, 0, none⟩) ∧ wx.cell? ⟨g, 0, none⟩ = some (.int .i64 x) ∧ wx.cell? ⟨g, 1, none⟩ = some (.int .i64 p) ∧ wx.cell? ⟨h, 0, none⟩ = some (.int .i64 y) ∧ wx.cell? ⟨h, 1, none⟩ = some (.int .i64 q) ∧ Below w.heap.size w wx
theorem sx_off (W : World) (g i j : Nat) (v : Value) (h : i ≠ j) : (W.setCell ⟨g, i, none⟩ v).cell? ⟨g, j, none⟩ = W.cell? ⟨g, j, none⟩ := World.cell?_setCell_other W _ _ v (by intro e; exact h (by cases e; rfl))
theorem sx0 (W : World) (g h : Nat) (x p y q : Value) (hne : h ≠ g) (i : (W.cell? ⟨g, 0, none⟩).isSome = true) : ((((W.setCell ⟨g, 0, none⟩ x).setCell ⟨g, 1, none⟩ p).setCell ⟨h, 0, none⟩ y).setCell ⟨h, 1, none⟩ q).cell? ⟨g, 0, none⟩ = some x := by
  rw [World.cell?_setCell_far _ _ _ _ hne, World.cell?_setCell_far _ _ _ _ hne, sx_off _ g 1 0 _ (by decide)]
  exact World.cell?_setCell_same' _ _ _ i
theorem sx1 (W : World) (g h : Nat) (x p y q : Value) (hne : h ≠ g) (i : (W.cell? ⟨g, 1, none⟩).isSome = true) : ((((W.setCell ⟨g, 0, none⟩ x).setCell ⟨g, 1, none⟩ p).setCell ⟨h, 0, none⟩ y).setCell ⟨h, 1, none⟩ q).cell? ⟨g, 1, none⟩ = some p := by
  rw [World.cell?_setCell_far _ _ _ _ hne, World.cell?_setCell_far _ _ _ _ hne]
  exact World.cell?_setCell_same' _ _ _ (by rw [sx_off _ g 0 1 _ (by decide)]; exact i)
theorem sx2 (W : World) (g h : Nat) (x p y q : Value) (hne : g ≠ h) (i : (W.cell? ⟨h, 0, none⟩).isSome = true) : ((((W.setCell ⟨g, 0, none⟩ x).setCell ⟨g, 1, none⟩ p).setCell ⟨h, 0, none⟩ y).setCell ⟨h, 1, none⟩ q).cell? ⟨h, 0, none⟩ = some y := by
  rw [sx_off _ h 1 0 _ (by decide)]
  exact World.cell?_setCell_same' _ _ _ (by rw [World.cell?_setCell_far _ _ _ _ hne, World.cell?_setCell_far _ _ _ _ hne]; exact i)
theorem sx3 (W : World) (g h : Nat) (x p y q : Value) (hne : g ≠ h) (i : (W.cell? ⟨h, 1, none⟩).isSome = true) : ((((W.setCell ⟨g, 0, none⟩ x).setCell ⟨g, 1, none⟩ p).setCell ⟨h, 0, none⟩ y).setCell ⟨h, 1, none⟩ q).cell? ⟨h, 1, none⟩ = some q :=
  World.cell?_setCell_same' _ _ _ (by rw [sx_off _ h 0 1 _ (by decide), World.cell?_setCell_far _ _ _ _ hne, World.cell?_setCell_far _ _ _ _ hne]; exact i)
def cmpV (x y p q : Int) : Int := if x < y then -1 else if y < x then 1 else if p < q then -1 else if q < p then 1 else 0
def eq3 (a0 a1 a2 b0 b1 b2 : Int) : Bool := a0 == b0 && (a1 == b1 && (a2 == b2))
set_option maxHeartbeats 2000000 in
theorem cmp_diff (a0 a1 a2 b0 b1 b2 x xe y ye p pe q qe : Int) (w : World) (hne : (a0 == b0 && (a1 == b1 && (a2 == b2))) = false) (ga : civil_Good.f a0 a1 a2 = some true) (gb : civil_Good.f b0 b1 b2 = some true)
    (h1 : civil_First.f a0 a1 a2 = some (x, xe)) (h2 : civil_Last.f a0 a1 a2 = some (p, pe)) (h3 : civil_First.f b0 b1 b2 = some (y, ye)) (h4 : civil_Last.f b0 b1 b2 = some (q, qe)) :
    Calls Try.prog 28 #[.agg #[.int .i64 a0, .int .i64 a1, .int .i64 a2], .agg #[.int .i64 b0, .int .i64 b1, .int .i64 b2]] w fun e w' => e = .returned (.int .i64 (cmpV x y p q)) ∧ Below w.heap.size w w' := by
  have Ga := Aside0.mk ga
  have Gb := Aside0.mk gb
  have E1 := Aside0.mk (fun w => ends_any a0 a1 a2 _ _ _ _ w h1 h2)
  have E2 := Aside0.mk (fun w => ends_any b0 b1 b2 _ _ _ _ w h3 h4)
  clear ga gb h1 h2 h3 h4
  go_enter Try.func28, Try.ntmps28
  go_upto_region 4 with (first | (go_at_call 23; (with_reducible refine (civil_Good.calls a0 a1 a2 _ _ Ga.out).mono ?_); rintro e w1 ⟨rfl, hb1⟩; obtain ⟨hc1, hf1⟩ := bcellB hb1; have hz1 : w.heap.size + 1 < w1.heap.size := by (have := hb1.size; simp at this; omega)) | (go_at_call 23; (with_reducible refine (civil_Good.calls b0 b1 b2 _ _ Gb.out).mono ?_); rintro e w2 ⟨rfl, hb2⟩; obtain ⟨hc2, hf2⟩ := bcellB hb2; have hz2 : w.heap.size + 1 < w2.heap.size := Nat.lt_of_lt_of_le hz1 hb2.size))
  have HB1 : Below w.heap.size w w1 := below_step (((Below.refl _ _).alloc (Nat.le_refl _) _).alloc (by simp) _) hb1
  have HB2 := Aside0.mk (below_step HB1 hb2)
  have X2 : Aside0 (BoxAt w.heap.size a0 a1 a2 b0 b1 b2 w2) := ⟨by
    refine ⟨?_, ?_, ?_, ?_, ?_, ?_, hz2⟩
    · rw [hc2 _ _ (by omega), hc1 _ _ (by simp; omega)]; go_simp
    · rw [hc2 _ _ (by omega), hc1 _ _ (by simp; omega)]; go_simp
    · rw [hc2 _ _ (by omega), hc1 _ _ (by simp; omega)]; go_simp
    · rw [hc2 _ _ (by omega), hc1 _ _ (by simp)]; go_simp
    · rw [hc2 _ _ (by omega), hc1 _ _ (by simp)]; go_simp
    · rw [hc2 _ _ (by omega), hc1 _ _ (by simp)]; go_simp⟩
  clear hc1 hf1 hb1 hc2 hf2 hb2 HB1 hz1 hz2
  obtain ⟨k0, k1, k2, l0, l1, l2, s2⟩ := X2.out
  have s2' : w.heap.size < w2.heap.size := by omega
  go_cut [6, 7] (fun s6 s7 wx => EndsCut w x p y q s6 s7 wx)
  case first =>
    have w2e1 : w2.heap.size ≠ w.heap.size := (by omega)
    have w2e2 : w2.heap.size ≠ w.heap.size + 1 := (by omega)
    have w2e3 : w2.heap.size + 1 ≠ w.heap.size := (by omega)
    have w2e4 : w.heap.size ≠ w2.heap.size := (by omega)
    have w2e5 : w.heap.size + 1 ≠ w2.heap.size := (by omega)
    have w2e6 : w.heap.size ≠ w2.heap.size + 1 := (by omega)
    go_region_held3 (fun w' => w'.cell? ⟨w.heap.size, 0, none⟩ = some (.int .i64 a0) ∧ w'.cell? ⟨w.heap.size, 1, none⟩ = some (.int .i64 a1) ∧ w'.cell? ⟨w.heap.size, 2, none⟩ = some (.int .i64 a2) ∧ w'.cell? ⟨w.heap.size + 1, 0, none⟩ = some (.int .i64 b0) ∧ w'.cell? ⟨w.heap.size + 1, 1, none⟩ = some (.int .i64 b1) ∧ w'.cell? ⟨w.heap.size + 1, 2, none⟩ = some (.int .i64 b2)) (go_keep) (first | (go_at_call_of 39 a0; refine (E1.out _).mono ?_; rintro e w3 ⟨rfl, hb3⟩; have X3 := Aside0.mk (BoxAt.next (by repeat (first | exact X4.out | exact X2.out | apply BoxAt.drew | apply BoxAt.alloc)) hb3); obtain ⟨m0, m1, m2, n0, n1, n2, s3⟩ := X3.out; have s3' : w.heap.size < w3.heap.size := (by omega); have w3e1 : w3.heap.size ≠ w.heap.size := (by omega); have w3e2 : w3.heap.size ≠ w.heap.size + 1 := (by omega); have w3e3 : w3.heap.size + 1 ≠ w.heap.size := (by omega); have w3e4 : w.heap.size ≠ w3.heap.size := (by omega); have w3e5 : w.heap.size + 1 ≠ w3.heap.size := (by omega); have w3e6 : w.heap.size ≠ w3.heap.size + 1 := (by omega); obtain ⟨hc3, hf3⟩ := bcellB hb3; have hz3 := hb3.size; (try simp at hz3); (try have hA1 : w2.heap.size < w3.heap.size := by omega); (try have hA2 : w2.heap.size + 1 < w3.heap.size := by omega); (try have hA3 : w4.heap.size < w3.heap.size := by omega); (try have hA4 : w4.heap.size + 1 < w3.heap.size := by omega)) | (go_at_call_of 39 b0; refine (E2.out _).mono ?_; rintro e w4 ⟨rfl, hb4⟩; have X4 := Aside0.mk (BoxAt.next (by repeat (first | exact X3.out | exact X2.out | apply BoxAt.drew | apply BoxAt.alloc)) hb4); obtain ⟨o0, o1, o2, p0, p1, p2, s4⟩ := X4.out; have s4' : w.heap.size < w4.heap.size := (by omega); have w4e1 : w4.heap.size ≠ w.heap.size := (by omega); have w4e2 : w4.heap.size ≠ w.heap.size + 1 := (by omega); have w4e3 : w4.heap.size + 1 ≠ w.heap.size := (by omega); have w4e4 : w.heap.size ≠ w4.heap.size := (by omega); have w4e5 : w.heap.size + 1 ≠ w4.heap.size := (by omega); have w4e6 : w.heap.size ≠ w4.heap.size + 1 := (by omega); obtain ⟨hc4, hf4⟩ := bcellB hb4; have hz4 := hb4.size; (try simp at hz4); (try have hB1 : w2.heap.size < w4.heap.size := by omega); (try have hB2 : w2.heap.size + 1 < w4.heap.size := by omega); (try have hB3 : w3.heap.size < w4.heap.size := by omega); (try have hB4 : w3.heap.size + 1 < w4.heap.size := by omega)))
    all_goals
      go_wp2_with fail
      go_meet
      rename_i hq
      clear hq
      refine ⟨_, _, rfl, rfl, ?_⟩
      refine ⟨?_, ?_, ?_, ?_, ?_⟩
      · first | (go_simp; done) | (refine sx0 _ _ _ _ _ _ _ ?_ ?_; (clear w2e1 w2e2 w2e3 w2e4 w2e5 w2e6 w3e1 w3e2 w3e3 w3e4 w3e5 w3e6 w4e1 w4e2 w4e3 w4e4 w4e5 w4e6; omega); (go_simp; done))
      · first | (go_simp; done) | (refine sx1 _ _ _ _ _ _ _ ?_ ?_; (clear w2e1 w2e2 w2e3 w2e4 w2e5 w2e6 w3e1 w3e2 w3e3 w3e4 w3e5 w3e6 w4e1 w4e2 w4e3 w4e4 w4e5 w4e6; omega); (go_simp; done))
      · first | (go_simp; done) | (refine sx2 _ _ _ _ _ _ _ ?_ ?_; (clear w2e1 w2e2 w2e3 w2e4 w2e5 w2e6 w3e1 w3e2 w3e3 w3e4 w3e5 w3e6 w4e1 w4e2 w4e3 w4e4 w4e5 w4e6; omega); (go_simp; done))
      · first | (go_simp; done) | (refine sx3 _ _ _ _ _ _ _ ?_ ?_; (clear w2e1 w2e2 w2e3 w2e4 w2e5 w2e6 w3e1 w3e2 w3e3 w3e4 w3e5 w3e6 w4e1 w4e2 w4e3 w4e4 w4e5 w4e6; omega); (go_simp; done))
      · clear w2e1 w2e2 w2e3 w2e4 w2e5 w2e6 w3e1 w3e2 w3e3 w3e4 w3e5 w3e6 w4e1 w4e2 w4e3 w4e4 w4e5 w4e6
        repeat (first | exact HB2.out | (with_reducible first | refine Below.setCell ?_ ?_ _ | apply below_alloc | apply below_drew1 | apply pw_below_drewN) | (refine below_step ?_ hb4) | (refine below_step ?_ hb3) | (simp; omega))
  case rest =>
    obtain ⟨g, h, rfl, rfl, c1, c2, c3, c4, hbel⟩ := hcut
    have hcs : x < y ∨ (¬ (x < y) ∧ y < x) ∨ (¬ (x < y) ∧ ¬ (y < x) ∧ p < q) ∨ (¬ (x < y) ∧ ¬ (y < x) ∧ ¬ (p < q) ∧ q < p) ∨ (¬ (x < y) ∧ ¬ (y < x) ∧ ¬ (p < q) ∧ ¬ (q < p)) := by omega
    have Hbel := Aside0.mk hbel
    clear hbel X2 s2 s2' k0 k1 k2 l0 l1 l2 E1 E2
    go_wp2_with fail
    rcases hcs with h1 | ⟨h1, h2⟩ | ⟨h1, h2, h3⟩ | ⟨h1, h2, h3, h4⟩ | ⟨h1, h2, h3, h4⟩
    · have hv : cmpV x y p q = -1 := by unfold cmpV; rw [if_pos (by omega)]
      have Hv := Aside0.mk hv
      clear hv
      refine wp_loop_rounds 3 ?_
      rw [rounds_succ]
      go_wp2_with fail
      go_quiet (fail)
      go_wp2_with fail
      go_ret
      exact ⟨by rw [Hv.out]; rfl, by repeat (first | exact Hbel.out | apply pw_below_drewN)⟩
    · have hv : cmpV x y p q = 1 := by unfold cmpV; rw [if_neg (by omega), if_pos (by omega)]
      have Hv := Aside0.mk hv
      clear hv
      refine wp_loop_rounds 3 ?_
      rw [rounds_succ]
      go_wp2_with fail
      go_quiet (fail)
      go_wp2_with fail
      go_quiet (fail)
      go_wp2_with fail
      go_ret
      exact ⟨by rw [Hv.out]; rfl, by repeat (first | exact Hbel.out | apply pw_below_drewN)⟩
    · have hv : cmpV x y p q = -1 := by unfold cmpV; rw [if_neg (by omega), if_neg (by omega), if_pos (by omega)]
      have Hv := Aside0.mk hv
      clear hv
      refine wp_loop_rounds 3 ?_
      rw [rounds_succ]
      go_wp2_with fail
      go_quiet (fail)
      go_wp2_with fail
      go_quiet (fail)
      go_wp2_with fail
      rw [rounds_succ]
      go_wp2_with fail
      go_quiet (fail)
      go_wp2_with fail
      go_ret
      exact ⟨by rw [Hv.out]; rfl, by repeat (first | exact Hbel.out | apply pw_below_drewN)⟩
    · have hv : cmpV x y p q = 1 := by unfold cmpV; rw [if_neg (by omega), if_neg (by omega), if_neg (by omega), if_pos (by omega)]
      have Hv := Aside0.mk hv
      clear hv
      refine wp_loop_rounds 3 ?_
      rw [rounds_succ]
      go_wp2_with fail
      go_quiet (fail)
      go_wp2_with fail
      go_quiet (fail)
      go_wp2_with fail
      rw [rounds_succ]
      go_wp2_with fail
      go_quiet (fail)
      go_wp2_with fail
      go_quiet (fail)
      go_wp2_with fail
      go_ret
      exact ⟨by rw [Hv.out]; rfl, by repeat (first | exact Hbel.out | apply pw_below_drewN)⟩
    · have hv : cmpV x y p q = 0 := by unfold cmpV; rw [if_neg (by omega), if_neg (by omega), if_neg (by omega), if_neg (by omega)]
      have Hv := Aside0.mk hv
      clear hv
      refine wp_loop_rounds 3 ?_
      rw [rounds_succ]
      go_wp2_with fail
      go_quiet (fail)
      go_wp2_with fail
      go_quiet (fail)
      go_wp2_with fail
      rw [rounds_succ]
      go_wp2_with fail
      go_quiet (fail)
      go_wp2_with fail
      go_quiet (fail)
      go_wp2_with fail
      rw [rounds_succ]
      go_wp2_with fail
      go_ret
      exact ⟨by rw [Hv.out]; rfl, by repeat (first | exact Hbel.out | apply pw_below_drewN)⟩
def cmp.v (a0 a1 a2 b0 b1 b2 : Int) : Option Int :=
  if (a0 == b0 && (a1 == b1 && (a2 == b2))) = true then some 0 else
  (civil_Good.f a0 a1 a2).bind fun ga => (civil_Good.f b0 b1 b2).bind fun gb => if ga = true ∧ gb = true then
    (civil_First.f a0 a1 a2).bind fun x => (civil_Last.f a0 a1 a2).bind fun p => (civil_First.f b0 b1 b2).bind fun y => (civil_Last.f b0 b1 b2).bind fun q => some (cmpV x.1 y.1 p.1 q.1)
  else some 0
def civil_Cmp.f (a0_0 : Int) (a0_1 : Int) (a0_2 : Int) (a1_0 : Int) (a1_1 : Int) (a1_2 : Int) : Option Int := cmp.v a0_0 a0_1 a0_2 a1_0 a1_1 a1_2
set_option maxHeartbeats 1000000 in
theorem cmp_bad (a0 a1 a2 b0 b1 b2 : Int) (w : World) (ga gb : Bool) (hne : (a0 == b0 && (a1 == b1 && (a2 == b2))) = false) (ha : civil_Good.f a0 a1 a2 = some ga) (hb : civil_Good.f b0 b1 b2 = some gb) (h : ¬ (ga = true ∧ gb = true)) :
    Calls Try.prog 28 #[.agg #[.int .i64 a0, .int .i64 a1, .int .i64 a2], .agg #[.int .i64 b0, .int .i64 b1, .int .i64 b2]] w fun e w' => e = .returned (.int .i64 0) ∧ Below w.heap.size w w' := by
  have Ga := Aside0.mk ha
  have Gb := Aside0.mk hb
  clear ha hb
  cases ga with
  | false =>
    clear h
    go_enter Try.func28, Try.ntmps28
    go_wp2_with (first | (go_at_call 23; (with_reducible refine (civil_Good.calls a0 a1 a2 _ _ Ga.out).mono ?_); rintro e w1 ⟨rfl, hb1⟩))
    go_ret
    exact ⟨rfl, below_step (((Below.refl _ _).alloc (Nat.le_refl _) _).alloc (by simp) _) hb1⟩
  | true =>
    have hg : gb = false := by cases gb <;> simp_all
    subst hg
    clear h
    go_enter Try.func28, Try.ntmps28
    go_wp2_with (first | (go_at_call 23; (with_reducible refine (civil_Good.calls a0 a1 a2 _ _ Ga.out).mono ?_); rintro e w1 ⟨rfl, hb1⟩; obtain ⟨hc1, hf1⟩ := bcellB hb1; have hz1 : w.heap.size + 1 < w1.heap.size := by (have := hb1.size; simp at this; omega)) | (go_at_call 23; (with_reducible refine (civil_Good.calls b0 b1 b2 _ _ Gb.out).mono ?_); rintro e w2 ⟨rfl, hb2⟩))
    go_ret
    exact ⟨rfl, below_step (below_step (((Below.refl _ _).alloc (Nat.le_refl _) _).alloc (by simp) _) hb1) hb2⟩
theorem civil_Cmp.calls (a0_0 : Int) (a0_1 : Int) (a0_2 : Int) (a1_0 : Int) (a1_1 : Int) (a1_2 : Int) (r : Int) (w : World) (h : civil_Cmp.f a0_0 a0_1 a0_2 a1_0 a1_1 a1_2 = some r) :
    Calls Try.prog 28 #[.agg #[.int .i64 a0_0, .int .i64 a0_1, .int .i64 a0_2], .agg #[.int .i64 a1_0, .int .i64 a1_1, .int .i64 a1_2]] w fun e w' => e = .returned (.int .i64 r) ∧ Below w.heap.size w w' := by
  unfold civil_Cmp.f cmp.v at h
  by_cases he : (a0_0 == a1_0 && (a0_1 == a1_1 && (a0_2 == a1_2))) = true
  · rw [if_pos he] at h
    obtain rfl := Option.some.inj h
    simp only [Bool.and_eq_true, beq_iff_eq] at he
    obtain ⟨rfl, rfl, rfl⟩ := he
    exact cmp_same a0_0 a0_1 a0_2 w
  · rw [if_neg he] at h
    rw [Bool.not_eq_true] at he
    obtain ⟨ga, ha, h⟩ := Option.bind_eq_some_iff.mp h
    try dsimp only at h
    obtain ⟨gb, hb, h⟩ := Option.bind_eq_some_iff.mp h
    try dsimp only at h
    cases ga with
    | false =>
      rw [if_neg (by simp)] at h
      obtain rfl := Option.some.inj h
      exact cmp_bad _ _ _ _ _ _ w false gb he ha hb (by simp)
    | true =>
      cases gb with
      | false =>
        rw [if_neg (by simp)] at h
        obtain rfl := Option.some.inj h
        exact cmp_bad _ _ _ _ _ _ w true false he ha hb (by simp)
      | true =>
        rw [if_pos ⟨rfl, rfl⟩] at h
        obtain ⟨⟨x, xe⟩, h1, h⟩ := Option.bind_eq_some_iff.mp h
        obtain ⟨⟨p, pe⟩, h2, h⟩ := Option.bind_eq_some_iff.mp h
        obtain ⟨⟨y, ye⟩, h3, h⟩ := Option.bind_eq_some_iff.mp h
        obtain ⟨⟨q, qe⟩, h4, h⟩ := Option.bind_eq_some_iff.mp h
        obtain rfl := Option.some.inj h
        exact cmp_diff _ _ _ _ _ _ x xe y ye p pe q qe w he ha hb h1 h2 h3 h4
end Go.Proofs.Ytckgjpklhfolnaa.Print
