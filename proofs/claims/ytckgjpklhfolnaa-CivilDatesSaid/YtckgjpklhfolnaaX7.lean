-- By a program of this session's (wip/myprint.py), over the kit's print. Not trusted: Lean checks it.
import Derived.Test.YtckgjpklhfolnaaX0
import Derived.Test.YtckgjpklhfolnaaX5
import Derived.Test.YtckgjpklhfolnaaX6
import Derived.Test.YtckgjpklhfolnaaCivilA
namespace Go.Proofs.Ytckgjpklhfolnaa.Print
open Go.RowKit Go.Proofs.YtckgjpklhfolnaaW.PrintWords Go.Proofs.YtckgjpklhfolnaaW.PrintLast Go.Proofs.YtckgjpklhfolnaaW.PrintMore
attribute [local go_sem] max2_int min2_int max_two min_two max_three min_three max_four min_four   -- for this text's walks alone
set_option linter.unusedVariables false
set_option linter.unusedSimpArgs false

/-! ### octroilaw04_CivilDates: function 4 -/
def octroilaw04_CivilDates.j0 : Nat → Int → Int → Int → Int → Int → Bool → Option (Bool)
  | 0, _, _, _, _, _, _ => none
  | k + 1, x0, x3, x4, x5, x6, x44 => if x44 = true then (none) else ((civil_Day.f x3 x4 x5).bind fun bt157 => (if x6 = 0 then (if bt157.1 = x0 then (if bt157.2 = 0 then ((octroilaw04_lives.f).bind fun t159 => (some t159)) else (none)) else (none)) else ((octroilaw04_lives.f).bind fun t160 => (some t160))))
def octroilaw04_CivilDates.f (k : Nat) (a0 : Int) : Option (Bool) := (civil_Date.f a0).bind fun bt149 => ((octroiref04_Date.f k a0).bind fun bt153 => (if bt149.1 = bt153.1 then (if bt149.2.1 = bt153.2.1 then (if bt149.2.2.1 = bt153.2.2.1 then (octroilaw04_CivilDates.j0 k a0 bt149.1 bt149.2.1 bt149.2.2.1 bt149.2.2.2 (bt149.2.2.2 != bt153.2.2.2)) else (octroilaw04_CivilDates.j0 k a0 bt149.1 bt149.2.1 bt149.2.2.1 bt149.2.2.2 true)) else (octroilaw04_CivilDates.j0 k a0 bt149.1 bt149.2.1 bt149.2.2.1 bt149.2.2.2 true)) else (octroilaw04_CivilDates.j0 k a0 bt149.1 bt149.2.1 bt149.2.2.1 bt149.2.2.2 true)))
theorem octroilaw04_CivilDates.mono_l : ∀ k, (∀ y0 y1 y2 y3 y4 y5, LeO (octroilaw04_CivilDates.j0 k y0 y1 y2 y3 y4 y5) (octroilaw04_CivilDates.j0 (k + 1) y0 y1 y2 y3 y4 y5))
  | 0 => fun _ _ _ _ _ _ r h => by simp [octroilaw04_CivilDates.j0] at h
  | k + 1 => by
    have ih0 := octroilaw04_CivilDates.mono_l k
    · intro y0 y1 y2 y3 y4 y5
      unfold octroilaw04_CivilDates.j0
      repeat' first
      | (with_reducible exact ih0 _ _ _ _ _ _)
      | (with_reducible exact octroiref04_Date.mono _ _)
      | (with_reducible exact LeO.refl _)
      | (with_reducible exact LeO.none _)
      | (with_reducible refine LeO.ite ?_ ?_)
      | (with_reducible refine LeO.bind ?_ (fun _ => ?_))
      | exact ih0 _ _ _ _ _ _
      | exact octroiref04_Date.mono _ _
      | exact LeO.none _
      | refine LeO.ite ?_ ?_
      | refine LeO.bind ?_ (fun _ => ?_)
theorem octroilaw04_CivilDates.mono : ∀ a0 k, LeO (octroilaw04_CivilDates.f k a0) (octroilaw04_CivilDates.f (k + 1) a0) := by
  intro a0 k
  have ih0 := octroilaw04_CivilDates.mono_l k
  unfold octroilaw04_CivilDates.f
  repeat' first
      | (with_reducible exact ih0 _ _ _ _ _ _)
      | (with_reducible exact octroiref04_Date.mono _ _)
      | (with_reducible exact LeO.refl _)
      | (with_reducible exact LeO.none _)
      | (with_reducible refine LeO.ite ?_ ?_)
      | (with_reducible refine LeO.bind ?_ (fun _ => ?_))
      | exact ih0 _ _ _ _ _ _
      | exact octroiref04_Date.mono _ _
      | exact LeO.none _
      | refine LeO.ite ?_ ?_
      | refine LeO.bind ?_ (fun _ => ?_)
set_option maxHeartbeats 8000000 in
set_option maxRecDepth 100000 in
theorem octroilaw04_CivilDates.calls (k : Nat) (a0 : Int) (r : Bool) (w : World) (h : octroilaw04_CivilDates.f k a0 = some r) :
    Calls Try.prog 4 #[.int .i64 a0] w fun e w' => e = .returned (.bool r) ∧ Below w.heap.size w w' := by
  have HB := Aside0.mk (Below.refl w.heap.size w)
  have H : ((civil_Date.f a0).bind fun bt149 => ((octroiref04_Date.f k a0).bind fun bt153 => (if bt149.1 = bt153.1 then (if bt149.2.1 = bt153.2.1 then (if bt149.2.2.1 = bt153.2.2.1 then (octroilaw04_CivilDates.j0 k a0 bt149.1 bt149.2.1 bt149.2.2.1 bt149.2.2.2 (bt149.2.2.2 != bt153.2.2.2)) else (octroilaw04_CivilDates.j0 k a0 bt149.1 bt149.2.1 bt149.2.2.1 bt149.2.2.2 true)) else (octroilaw04_CivilDates.j0 k a0 bt149.1 bt149.2.1 bt149.2.2.1 bt149.2.2.2 true)) else (octroilaw04_CivilDates.j0 k a0 bt149.1 bt149.2.1 bt149.2.2.1 bt149.2.2.2 true)))) = some r := h
  clear h
  replace H := Option.bind_eq_some_iff.mp H
  obtain ⟨⟨t149, t150, t151, t152⟩, A20, H⟩ := H
  replace H : ((octroiref04_Date.f k a0).bind fun bt153 => (if t149 = bt153.1 then (if t150 = bt153.2.1 then (if t151 = bt153.2.2.1 then (octroilaw04_CivilDates.j0 k a0 t149 t150 t151 t152 (t152 != bt153.2.2.2)) else (octroilaw04_CivilDates.j0 k a0 t149 t150 t151 t152 true)) else (octroilaw04_CivilDates.j0 k a0 t149 t150 t151 t152 true)) else (octroilaw04_CivilDates.j0 k a0 t149 t150 t151 t152 true))) = some r := H
  have A2 := Aside0.mk A20
  clear A20
  replace H := Option.bind_eq_some_iff.mp H
  obtain ⟨⟨t153, t154, t155, t156⟩, A30, H⟩ := H
  replace H : (if t149 = t153 then (if t150 = t154 then (if t151 = t155 then (octroilaw04_CivilDates.j0 k a0 t149 t150 t151 t152 (t152 != t156)) else (octroilaw04_CivilDates.j0 k a0 t149 t150 t151 t152 true)) else (octroilaw04_CivilDates.j0 k a0 t149 t150 t151 t152 true)) else (octroilaw04_CivilDates.j0 k a0 t149 t150 t151 t152 true)) = some r := H
  have A3 := Aside0.mk A30
  clear A30
  have HC4 := Aside0.mk H
  clear H
  go_enter Try.func4, Try.ntmps4
  go_upto_region 3 with (first | ((with_reducible refine gate_callee (f := 15) rfl ?_); refine goesL_ (some 15) rfl rfl Try.func15 (by kernel_rfl) rfl #[.int .i64 a0] rfl (by (try simp only [List.map_toArray, List.map_cons, List.map_nil]); first | done | rfl | (simp only [List.length_drop, List.length_take]; rfl)) ?_; (with_reducible refine (civil_Date.calls a0 t149 t150 t151 t152 _ A2.out).mono ?_); rintro e w5 ⟨rfl, hb⟩; refine ⟨_, rfl, ?_⟩; have n0_ := Aside0.mk (below_step (by repeat (first | (with_reducible first | exact HB.out | apply below_alloc | apply pw_below_drewN | apply below_drew1) | exact HB.out)) hb); clear HB; have HB := n0_; clear n0_; (try clear hb); (try clear hb2); (try clear hk); (try clear hi)) | ((with_reducible refine gate_callee (f := 16) rfl ?_); refine goesL_ (some 22) rfl rfl Try.func16 (by kernel_rfl) rfl #[.int .i64 a0] rfl (by (try simp only [List.map_toArray, List.map_cons, List.map_nil]); first | done | rfl | (simp only [List.length_drop, List.length_take]; rfl)) ?_; (with_reducible refine (octroiref04_Date.calls k a0 t153 t154 t155 t156 _ A3.out).mono ?_); rintro e w' ⟨rfl, ⟨nd, rfl⟩⟩; refine ⟨_, rfl, ?_⟩))
  (try simp only [Act.put, List.setIfInBounds_toArray, List.set_cons_zero, List.set_cons_succ])
  go_cut [44] (fun v44 wc => ∃ (kq : Nat) (x44_3 : Bool), v44 = .bool x44_3 ∧ Aside0 (octroilaw04_CivilDates.j0 kq a0 t149 t150 t151 t152 x44_3 = some r) ∧ Aside0 (kq ≤ k) ∧ Aside0 (Below w.heap.size w wc))
  case first =>
    have H := HC4.out
    clear HC4
    by_cases c6 : t149 = t153
    · rw [if_pos c6] at H
      have c6b0 : (t149 == t153) = true := beq_iff_eq.mpr c6
      have c6b1 : (t149 != t153) = false := bne_eq_false_iff_eq.mpr c6
      clear c6
      (first | rw [c6b0] | (simp only [i64_w, i32_w]; rw [c6b0]) | skip)
      by_cases c7 : t150 = t154
      · rw [if_pos c7] at H
        have c7b0 : (t150 == t154) = true := beq_iff_eq.mpr c7
        have c7b1 : (t150 != t154) = false := bne_eq_false_iff_eq.mpr c7
        clear c7
        by_cases c8 : t151 = t155
        · rw [if_pos c8] at H
          have c8b0 : (t151 == t155) = true := beq_iff_eq.mpr c8
          have c8b1 : (t151 != t155) = false := bne_eq_false_iff_eq.mpr c8
          clear c8
          have H' := Aside0.mk H
          clear H
          go_wp2
          go_meet
          case rel => exact ⟨_, ((t152 != t156)), (by first | rfl | (simp; done) | (simp [*]; done)), H', ⟨by first | omega | exact Nat.le_refl _⟩, ⟨by repeat (first | (with_reducible first | exact HB.out | apply below_alloc | apply pw_below_drewN | apply below_drew1) | exact HB.out)⟩⟩
        · rw [if_neg c8] at H
          have c8b0 : (t151 == t155) = false := beq_eq_false_iff_ne.mpr c8
          have c8b1 : (t151 != t155) = true := bne_iff_ne.mpr c8
          have H' := Aside0.mk H
          clear H
          go_wp2
          go_meet
          case rel => exact ⟨_, (true), (by first | rfl | (simp; done) | (simp [*]; done)), H', ⟨by first | omega | exact Nat.le_refl _⟩, ⟨by repeat (first | (with_reducible first | exact HB.out | apply below_alloc | apply pw_below_drewN | apply below_drew1) | exact HB.out)⟩⟩
      · rw [if_neg c7] at H
        have c7b0 : (t150 == t154) = false := beq_eq_false_iff_ne.mpr c7
        have c7b1 : (t150 != t154) = true := bne_iff_ne.mpr c7
        have H' := Aside0.mk H
        clear H
        go_wp2
        go_meet
        case rel => exact ⟨_, (true), (by first | rfl | (simp; done) | (simp [*]; done)), H', ⟨by first | omega | exact Nat.le_refl _⟩, ⟨by repeat (first | (with_reducible first | exact HB.out | apply below_alloc | apply pw_below_drewN | apply below_drew1) | exact HB.out)⟩⟩
    · rw [if_neg c6] at H
      have c6b0 : (t149 == t153) = false := beq_eq_false_iff_ne.mpr c6
      have c6b1 : (t149 != t153) = true := bne_iff_ne.mpr c6
      (first | rw [c6b0] | (simp only [i64_w, i32_w]; rw [c6b0]) | skip)
      have H' := Aside0.mk H
      clear H
      go_wp2
      go_meet
      case rel => exact ⟨_, (true), (by first | rfl | (simp; done) | (simp [*]; done)), H', ⟨by first | omega | exact Nat.le_refl _⟩, ⟨by repeat (first | (with_reducible first | exact HB.out | apply below_alloc | apply pw_below_drewN | apply below_drew1) | exact HB.out)⟩⟩
  case rest =>
    clear HC4
    try clear c1
    try clear p2
    try clear c4
    try clear c6
    try clear c6b0
    try clear c6b1
    try clear c7
    try clear c7b0
    try clear c7b1
    try clear c8
    try clear c8b0
    try clear c8b1
    obtain ⟨kq, x44_3, rfl, HA, HJ3, HB⟩ := hcut
    cases kq with
    | zero => exact absurd HA.out (by simp [octroilaw04_CivilDates.j0])
    | succ kj3 =>
      have H := HA.out
      clear HA
      simp only [octroilaw04_CivilDates.j0] at H
      by_cases c9 : x44_3 = true
      · subst c9
        have H1 : (none) = some r := by rw [if_pos rfl] at H; exact H
        clear H
        have H := H1
        clear H1
        exact absurd H (by simp)
      · replace c9 := Bool.eq_false_iff.mpr c9
        subst c9
        have H1 : ((civil_Day.f t149 t150 t151).bind fun bt157 => (if t152 = 0 then (if bt157.1 = a0 then (if bt157.2 = 0 then ((octroilaw04_lives.f).bind fun t159 => (some t159)) else (none)) else (none)) else ((octroilaw04_lives.f).bind fun t160 => (some t160)))) = some r := by rw [if_neg (show ¬ (false = true) by decide)] at H; exact H
        clear H
        have H := H1
        clear H1
        replace H := Option.bind_eq_some_iff.mp H
        obtain ⟨⟨t157, t158⟩, A100, H⟩ := H
        replace H : (if t152 = 0 then (if t157 = a0 then (if t158 = 0 then ((octroilaw04_lives.f).bind fun t159 => (some t159)) else (none)) else (none)) else ((octroilaw04_lives.f).bind fun t160 => (some t160))) = some r := H
        have A10 := Aside0.mk A100
        clear A100
        by_cases c11 : t152 = 0
        · rw [if_pos c11] at H
          have c11b0 : (t152 == 0) = true := beq_iff_eq.mpr c11
          have c11b1 : (t152 != 0) = false := bne_eq_false_iff_eq.mpr c11
          clear c11
          by_cases c12 : t157 = a0
          · rw [if_pos c12] at H
            have c12b0 : (t157 == a0) = true := beq_iff_eq.mpr c12
            have c12b1 : (t157 != a0) = false := bne_eq_false_iff_eq.mpr c12
            clear c12
            by_cases c13 : t158 = 0
            · rw [if_pos c13] at H
              have c13b0 : (t158 == 0) = true := beq_iff_eq.mpr c13
              have c13b1 : (t158 != 0) = false := bne_eq_false_iff_eq.mpr c13
              clear c13
              replace H := Option.bind_eq_some_iff.mp H
              obtain ⟨t159, A140, H⟩ := H
              replace H : (some t159) = some r := H
              have A14 := Aside0.mk A140
              clear A140
              obtain rfl := Option.some.inj H
              go_wp2_with (first | ((with_reducible refine gate_callee (f := 8) rfl ?_); refine goesL_ (some 49) rfl rfl Try.func8 (by kernel_rfl) rfl #[.int .i64 t149, .int .i64 t150, .int .i64 t151] rfl (by (try simp only [List.map_toArray, List.map_cons, List.map_nil]); first | done | rfl | (simp only [List.length_drop, List.length_take]; rfl)) ?_; (with_reducible refine (civil_Day.calls t149 t150 t151 t157 t158 _ A10.out).mono ?_); rintro e w15 ⟨rfl, hb⟩; refine ⟨_, rfl, ?_⟩; have n0_ := Aside0.mk (below_step (by repeat (first | (with_reducible first | exact HB.out | apply below_alloc | apply pw_below_drewN | apply below_drew1) | exact HB.out)) hb); clear HB; have HB := n0_; clear n0_; (try clear hb); (try clear hb2); (try clear hk); (try clear hi)) | (go_at_call 14; (with_reducible refine (octroilaw04_lives.calls  t159 _ A14.out).mono ?_); rintro e w16 ⟨rfl, hb⟩; have n0_ := Aside0.mk (below_step (by repeat (first | (with_reducible first | exact HB.out | apply below_alloc | apply pw_below_drewN | apply below_drew1) | exact HB.out)) hb); clear HB; have HB := n0_; clear n0_; (try clear hb); (try clear hb2); (try clear hk); (try clear hi)))
              go_ret
              exact ⟨by first | rfl | (simp [errW_none, errW_some] <;> rfl) | (simp [*, errW_none, errW_some] <;> rfl), by repeat (first | (with_reducible first | exact HB.out | apply below_alloc | apply pw_below_drewN | apply below_drew1) | exact HB.out)⟩
            · rw [if_neg c13] at H
              exact absurd H (by simp)
          · rw [if_neg c12] at H
            exact absurd H (by simp)
        · rw [if_neg c11] at H
          have c11b0 : (t152 == 0) = false := beq_eq_false_iff_ne.mpr c11
          have c11b1 : (t152 != 0) = true := bne_iff_ne.mpr c11
          replace H := Option.bind_eq_some_iff.mp H
          obtain ⟨t160, A170, H⟩ := H
          replace H : (some t160) = some r := H
          have A17 := Aside0.mk A170
          clear A170
          obtain rfl := Option.some.inj H
          go_wp2_with (first | ((with_reducible refine gate_callee (f := 8) rfl ?_); refine goesL_ (some 49) rfl rfl Try.func8 (by kernel_rfl) rfl #[.int .i64 t149, .int .i64 t150, .int .i64 t151] rfl (by (try simp only [List.map_toArray, List.map_cons, List.map_nil]); first | done | rfl | (simp only [List.length_drop, List.length_take]; rfl)) ?_; (with_reducible refine (civil_Day.calls t149 t150 t151 t157 t158 _ A10.out).mono ?_); rintro e w18 ⟨rfl, hb⟩; refine ⟨_, rfl, ?_⟩; have n0_ := Aside0.mk (below_step (by repeat (first | (with_reducible first | exact HB.out | apply below_alloc | apply pw_below_drewN | apply below_drew1) | exact HB.out)) hb); clear HB; have HB := n0_; clear n0_; (try clear hb); (try clear hb2); (try clear hk); (try clear hi)) | (go_at_call 14; (with_reducible refine (octroilaw04_lives.calls  t160 _ A17.out).mono ?_); rintro e w19 ⟨rfl, hb⟩; have n0_ := Aside0.mk (below_step (by repeat (first | (with_reducible first | exact HB.out | apply below_alloc | apply pw_below_drewN | apply below_drew1) | exact HB.out)) hb); clear HB; have HB := n0_; clear n0_; (try clear hb); (try clear hb2); (try clear hk); (try clear hi)))
          go_ret
          exact ⟨by first | rfl | (simp [errW_none, errW_some] <;> rfl) | (simp [*, errW_none, errW_some] <;> rfl), by repeat (first | (with_reducible first | exact HB.out | apply below_alloc | apply pw_below_drewN | apply below_drew1) | exact HB.out)⟩

/-- THE ONE PURE STATEMENT of octroilaw04_CivilDates: yours. -/
def octroilaw04_CivilDates.Pure : Prop := ∀ (a0 : Int), (Lit.int .i64 a0).wf = true → ∃ k, octroilaw04_CivilDates.f k a0 = some true
theorem octroilaw04_CivilDates.walk (P : octroilaw04_CivilDates.Pure) (a0 : Int) (w : World) (w0 : (Lit.int .i64 a0).wf = true) :
    Calls Try.prog 4 #[.int .i64 a0] w fun e w' => e = .returned (.bool true) ∧ Below w.heap.size w w' := by
  obtain ⟨k, h⟩ := P a0 w0
  refine (octroilaw04_CivilDates.calls k a0 true w h).mono ?_
  rintro e w' ⟨rfl, hd⟩
  exact ⟨rfl, hd⟩

end Go.Proofs.Ytckgjpklhfolnaa.Print
