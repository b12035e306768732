-- By a program of this session's (wip/myprint.py), over the kit's print. Not trusted: Lean checks it.
import Derived.Test.YtdhmhdhfgojofaaX0
import Derived.Test.YtdhmhdhfgojofaaX7
import Derived.Test.YtdhmhdhfgojofaaX8
import Derived.Test.YtdhmhdhfgojofaaMarginA
namespace Go.Proofs.Ytdhmhdhfgojofaa.Print
open Go.RowKit Go.Proofs.YtdhmhdhfgojofaaW.PrintWords Go.Proofs.YtdhmhdhfgojofaaW.PrintLast Go.Proofs.YtdhmhdhfgojofaaW.PrintMore
attribute [local go_sem] max2_int min2_int max_two min_two max_three min_three max_four min_four   -- for this text's walks alone
set_option linter.unusedVariables false
set_option linter.unusedSimpArgs false

/-! ### octroilaw23_MarginOf: function 3 -/
def octroilaw23_MarginOf.f (k : Nat) (a0 : Int) (a1 : Int) (a2 : Int) : Option (Bool) := (margin_Of.f a0 a1 a2).bind fun bt267 => ((octroiref23_Of.f k a0 a1 a2).bind fun bt270 => (if bt267.1 = bt270.1 then (if bt267.2.1 = bt270.2.1 then (if bt267.2.2 = bt270.2.2 then (if bt267.2.2 = 0 then (if bt267.1 ≥ 0 then (if bt267.2.1 ≥ 0 then (if a0 > a1 then ((octroilaw23_lives.f).bind fun t273 => (some t273)) else (if bt267.1 = 0 then (if bt267.2.1 = 0 then ((octroilaw23_lives.f).bind fun t274 => (some t274)) else (none)) else (none))) else (none)) else (none)) else ((octroilaw23_lives.f).bind fun t275 => (some t275))) else (none)) else (none)) else (none)))
theorem octroilaw23_MarginOf.mono : ∀ a0 a1 a2 k, LeO (octroilaw23_MarginOf.f k a0 a1 a2) (octroilaw23_MarginOf.f (k + 1) a0 a1 a2) := by
  intro a0 a1 a2 k
  unfold octroilaw23_MarginOf.f
  repeat' first
      | (with_reducible exact octroiref23_Of.mono _ _ _ _)
      | (with_reducible exact LeO.refl _)
      | (with_reducible exact LeO.none _)
      | (with_reducible refine LeO.ite ?_ ?_)
      | (with_reducible refine LeO.bind ?_ (fun _ => ?_))
      | exact octroiref23_Of.mono _ _ _ _
      | exact LeO.none _
      | refine LeO.ite ?_ ?_
      | refine LeO.bind ?_ (fun _ => ?_)
set_option maxHeartbeats 8000000 in
set_option maxRecDepth 100000 in
theorem octroilaw23_MarginOf.calls (k : Nat) (a0 : Int) (a1 : Int) (a2 : Int) (r : Bool) (w : World) (h : octroilaw23_MarginOf.f k a0 a1 a2 = some r) :
    Calls Try.prog 3 #[.int .i64 a0, .int .i64 a1, .int .i64 a2] w fun e w' => e = .returned (.bool r) ∧ Below w.heap.size w w' := by
  have HB := Aside0.mk (Below.refl w.heap.size w)
  have H : ((margin_Of.f a0 a1 a2).bind fun bt267 => ((octroiref23_Of.f k a0 a1 a2).bind fun bt270 => (if bt267.1 = bt270.1 then (if bt267.2.1 = bt270.2.1 then (if bt267.2.2 = bt270.2.2 then (if bt267.2.2 = 0 then (if bt267.1 ≥ 0 then (if bt267.2.1 ≥ 0 then (if a0 > a1 then ((octroilaw23_lives.f).bind fun t273 => (some t273)) else (if bt267.1 = 0 then (if bt267.2.1 = 0 then ((octroilaw23_lives.f).bind fun t274 => (some t274)) else (none)) else (none))) else (none)) else (none)) else ((octroilaw23_lives.f).bind fun t275 => (some t275))) else (none)) else (none)) else (none)))) = some r := h
  clear h
  replace H := Option.bind_eq_some_iff.mp H
  obtain ⟨⟨t267, t268, t269⟩, A40, H⟩ := H
  replace H : ((octroiref23_Of.f k a0 a1 a2).bind fun bt270 => (if t267 = bt270.1 then (if t268 = bt270.2.1 then (if t269 = bt270.2.2 then (if t269 = 0 then (if t267 ≥ 0 then (if t268 ≥ 0 then (if a0 > a1 then ((octroilaw23_lives.f).bind fun t273 => (some t273)) else (if t267 = 0 then (if t268 = 0 then ((octroilaw23_lives.f).bind fun t274 => (some t274)) else (none)) else (none))) else (none)) else (none)) else ((octroilaw23_lives.f).bind fun t275 => (some t275))) else (none)) else (none)) else (none))) = some r := H
  have A4 := Aside0.mk A40
  clear A40
  replace H := Option.bind_eq_some_iff.mp H
  obtain ⟨⟨t270, t271, t272⟩, A50, H⟩ := H
  replace H : (if t267 = t270 then (if t268 = t271 then (if t269 = t272 then (if t269 = 0 then (if t267 ≥ 0 then (if t268 ≥ 0 then (if a0 > a1 then ((octroilaw23_lives.f).bind fun t273 => (some t273)) else (if t267 = 0 then (if t268 = 0 then ((octroilaw23_lives.f).bind fun t274 => (some t274)) else (none)) else (none))) else (none)) else (none)) else ((octroilaw23_lives.f).bind fun t275 => (some t275))) else (none)) else (none)) else (none)) = some r := H
  have A5 := Aside0.mk A50
  clear A50
  by_cases c6 : t267 = t270
  · rw [if_pos c6] at H
    have c6b0 : (t267 == t270) = true := beq_iff_eq.mpr c6
    have c6b1 : (t267 != t270) = false := bne_eq_false_iff_eq.mpr c6
    clear c6
    by_cases c7 : t268 = t271
    · rw [if_pos c7] at H
      have c7b0 : (t268 == t271) = true := beq_iff_eq.mpr c7
      have c7b1 : (t268 != t271) = false := bne_eq_false_iff_eq.mpr c7
      clear c7
      by_cases c8 : t269 = t272
      · rw [if_pos c8] at H
        have c8b0 : (t269 == t272) = true := beq_iff_eq.mpr c8
        have c8b1 : (t269 != t272) = false := bne_eq_false_iff_eq.mpr c8
        clear c8
        by_cases c9 : t269 = 0
        · rw [if_pos c9] at H
          have c9b0 : (t269 == 0) = true := beq_iff_eq.mpr c9
          have c9b1 : (t269 != 0) = false := bne_eq_false_iff_eq.mpr c9
          clear c9
          by_cases c10 : t267 ≥ 0
          · rw [if_pos c10] at H
            have c10b0 : decide (0 ≤ t267) = true := decide_eq_true c10
            clear c10
            by_cases c11 : t268 ≥ 0
            · rw [if_pos c11] at H
              have c11b0 : decide (0 ≤ t268) = true := decide_eq_true c11
              clear c11
              by_cases c12 : a0 > a1
              · rw [if_pos c12] at H
                have c12b0 : decide (a1 < a0) = true := decide_eq_true c12
                clear c12
                replace H := Option.bind_eq_some_iff.mp H
                obtain ⟨t273, A130, H⟩ := H
                replace H : (some t273) = some r := H
                have A13 := Aside0.mk A130
                clear A130
                obtain rfl := Option.some.inj H
                go_enter Try.func3, Try.ntmps3
                go_wp2_with (first | ((with_reducible refine gate_callee (f := 6) rfl ?_); refine goesL_ (some 17) rfl rfl Try.func6 (by kernel_rfl) rfl #[.int .i64 a0, .int .i64 a1, .int .i64 a2] rfl (by (try simp only [List.map_toArray, List.map_cons, List.map_nil]); first | done | rfl | (simp only [List.length_drop, List.length_take]; rfl)) ?_; (with_reducible refine (margin_Of.calls a0 a1 a2 t267 t268 t269 _ A4.out).mono ?_); rintro e w14 ⟨rfl, hb⟩; refine ⟨_, rfl, ?_⟩; have n0_ := Aside0.mk (below_step (by repeat (first | (with_reducible first | exact HB.out | apply below_alloc | apply pw_below_drewN | apply below_drew1) | exact HB.out)) hb); clear HB; have HB := n0_; clear n0_; (try clear hb); (try clear hb2); (try clear hk); (try clear hi)) | ((with_reducible refine gate_callee (f := 7) rfl ?_); refine goesL_ (some 25) rfl rfl Try.func7 (by kernel_rfl) rfl #[.int .i64 a0, .int .i64 a1, .int .i64 a2] rfl (by (try simp only [List.map_toArray, List.map_cons, List.map_nil]); first | done | rfl | (simp only [List.length_drop, List.length_take]; rfl)) ?_; (with_reducible refine (octroiref23_Of.calls k a0 a1 a2 t270 t271 t272 _ A5.out).mono ?_); rintro e w15 ⟨rfl, hb⟩; refine ⟨_, rfl, ?_⟩; have n0_ := Aside0.mk (below_step (by repeat (first | (with_reducible first | exact HB.out | apply below_alloc | apply pw_below_drewN | apply below_drew1) | exact HB.out)) hb); clear HB; have HB := n0_; clear n0_; (try clear hb); (try clear hb2); (try clear hk); (try clear hi)) | (go_at_call 8; (with_reducible refine (octroilaw23_lives.calls  t273 _ A13.out).mono ?_); rintro e w16 ⟨rfl, hb⟩; have n0_ := Aside0.mk (below_step (by repeat (first | (with_reducible first | exact HB.out | apply below_alloc | apply pw_below_drewN | apply below_drew1) | exact HB.out)) hb); clear HB; have HB := n0_; clear n0_; (try clear hb); (try clear hb2); (try clear hk); (try clear hi)))
                go_ret
                exact ⟨by first | rfl | (simp [errW_none, errW_some] <;> rfl) | (simp [*, errW_none, errW_some] <;> rfl), by repeat (first | (with_reducible first | exact HB.out | apply below_alloc | apply pw_below_drewN | apply below_drew1) | exact HB.out)⟩
              · rw [if_neg c12] at H
                have c12b0 : decide (a1 < a0) = false := decide_eq_false c12
                clear c12
                by_cases c17 : t267 = 0
                · rw [if_pos c17] at H
                  have c17b0 : (t267 == 0) = true := beq_iff_eq.mpr c17
                  have c17b1 : (t267 != 0) = false := bne_eq_false_iff_eq.mpr c17
                  clear c17
                  by_cases c18 : t268 = 0
                  · rw [if_pos c18] at H
                    have c18b0 : (t268 == 0) = true := beq_iff_eq.mpr c18
                    have c18b1 : (t268 != 0) = false := bne_eq_false_iff_eq.mpr c18
                    clear c18
                    replace H := Option.bind_eq_some_iff.mp H
                    obtain ⟨t274, A190, H⟩ := H
                    replace H : (some t274) = some r := H
                    have A19 := Aside0.mk A190
                    clear A190
                    obtain rfl := Option.some.inj H
                    go_enter Try.func3, Try.ntmps3
                    go_wp2_with (first | ((with_reducible refine gate_callee (f := 6) rfl ?_); refine goesL_ (some 17) rfl rfl Try.func6 (by kernel_rfl) rfl #[.int .i64 a0, .int .i64 a1, .int .i64 a2] rfl (by (try simp only [List.map_toArray, List.map_cons, List.map_nil]); first | done | rfl | (simp only [List.length_drop, List.length_take]; rfl)) ?_; (with_reducible refine (margin_Of.calls a0 a1 a2 t267 t268 t269 _ A4.out).mono ?_); rintro e w20 ⟨rfl, hb⟩; refine ⟨_, rfl, ?_⟩; have n0_ := Aside0.mk (below_step (by repeat (first | (with_reducible first | exact HB.out | apply below_alloc | apply pw_below_drewN | apply below_drew1) | exact HB.out)) hb); clear HB; have HB := n0_; clear n0_; (try clear hb); (try clear hb2); (try clear hk); (try clear hi)) | ((with_reducible refine gate_callee (f := 7) rfl ?_); refine goesL_ (some 25) rfl rfl Try.func7 (by kernel_rfl) rfl #[.int .i64 a0, .int .i64 a1, .int .i64 a2] rfl (by (try simp only [List.map_toArray, List.map_cons, List.map_nil]); first | done | rfl | (simp only [List.length_drop, List.length_take]; rfl)) ?_; (with_reducible refine (octroiref23_Of.calls k a0 a1 a2 t270 t271 t272 _ A5.out).mono ?_); rintro e w21 ⟨rfl, hb⟩; refine ⟨_, rfl, ?_⟩; have n0_ := Aside0.mk (below_step (by repeat (first | (with_reducible first | exact HB.out | apply below_alloc | apply pw_below_drewN | apply below_drew1) | exact HB.out)) hb); clear HB; have HB := n0_; clear n0_; (try clear hb); (try clear hb2); (try clear hk); (try clear hi)) | (go_at_call 8; (with_reducible refine (octroilaw23_lives.calls  t274 _ A19.out).mono ?_); rintro e w22 ⟨rfl, hb⟩; have n0_ := Aside0.mk (below_step (by repeat (first | (with_reducible first | exact HB.out | apply below_alloc | apply pw_below_drewN | apply below_drew1) | exact HB.out)) hb); clear HB; have HB := n0_; clear n0_; (try clear hb); (try clear hb2); (try clear hk); (try clear hi)))
                    go_ret
                    exact ⟨by first | rfl | (simp [errW_none, errW_some] <;> rfl) | (simp [*, errW_none, errW_some] <;> rfl), by repeat (first | (with_reducible first | exact HB.out | apply below_alloc | apply pw_below_drewN | apply below_drew1) | exact HB.out)⟩
                  · rw [if_neg c18] at H
                    exact absurd H (by simp)
                · rw [if_neg c17] at H
                  exact absurd H (by simp)
            · rw [if_neg c11] at H
              exact absurd H (by simp)
          · rw [if_neg c10] at H
            exact absurd H (by simp)
        · rw [if_neg c9] at H
          have c9b0 : (t269 == 0) = false := beq_eq_false_iff_ne.mpr c9
          have c9b1 : (t269 != 0) = true := bne_iff_ne.mpr c9
          replace H := Option.bind_eq_some_iff.mp H
          obtain ⟨t275, A230, H⟩ := H
          replace H : (some t275) = some r := H
          have A23 := Aside0.mk A230
          clear A230
          obtain rfl := Option.some.inj H
          go_enter Try.func3, Try.ntmps3
          go_wp2_with (first | ((with_reducible refine gate_callee (f := 6) rfl ?_); refine goesL_ (some 17) rfl rfl Try.func6 (by kernel_rfl) rfl #[.int .i64 a0, .int .i64 a1, .int .i64 a2] rfl (by (try simp only [List.map_toArray, List.map_cons, List.map_nil]); first | done | rfl | (simp only [List.length_drop, List.length_take]; rfl)) ?_; (with_reducible refine (margin_Of.calls a0 a1 a2 t267 t268 t269 _ A4.out).mono ?_); rintro e w24 ⟨rfl, hb⟩; refine ⟨_, rfl, ?_⟩; have n0_ := Aside0.mk (below_step (by repeat (first | (with_reducible first | exact HB.out | apply below_alloc | apply pw_below_drewN | apply below_drew1) | exact HB.out)) hb); clear HB; have HB := n0_; clear n0_; (try clear hb); (try clear hb2); (try clear hk); (try clear hi)) | ((with_reducible refine gate_callee (f := 7) rfl ?_); refine goesL_ (some 25) rfl rfl Try.func7 (by kernel_rfl) rfl #[.int .i64 a0, .int .i64 a1, .int .i64 a2] rfl (by (try simp only [List.map_toArray, List.map_cons, List.map_nil]); first | done | rfl | (simp only [List.length_drop, List.length_take]; rfl)) ?_; (with_reducible refine (octroiref23_Of.calls k a0 a1 a2 t270 t271 t272 _ A5.out).mono ?_); rintro e w25 ⟨rfl, hb⟩; refine ⟨_, rfl, ?_⟩; have n0_ := Aside0.mk (below_step (by repeat (first | (with_reducible first | exact HB.out | apply below_alloc | apply pw_below_drewN | apply below_drew1) | exact HB.out)) hb); clear HB; have HB := n0_; clear n0_; (try clear hb); (try clear hb2); (try clear hk); (try clear hi)) | (go_at_call 8; (with_reducible refine (octroilaw23_lives.calls  t275 _ A23.out).mono ?_); rintro e w26 ⟨rfl, hb⟩; have n0_ := Aside0.mk (below_step (by repeat (first | (with_reducible first | exact HB.out | apply below_alloc | apply pw_below_drewN | apply below_drew1) | exact HB.out)) hb); clear HB; have HB := n0_; clear n0_; (try clear hb); (try clear hb2); (try clear hk); (try clear hi)))
          go_ret
          exact ⟨by first | rfl | (simp [errW_none, errW_some] <;> rfl) | (simp [*, errW_none, errW_some] <;> rfl), by repeat (first | (with_reducible first | exact HB.out | apply below_alloc | apply pw_below_drewN | apply below_drew1) | exact HB.out)⟩
      · rw [if_neg c8] at H
        exact absurd H (by simp)
    · rw [if_neg c7] at H
      exact absurd H (by simp)
  · rw [if_neg c6] at H
    exact absurd H (by simp)

/-- THE ONE PURE STATEMENT of octroilaw23_MarginOf: yours. -/
def octroilaw23_MarginOf.Pure : Prop := ∀ (a0 : Int) (a1 : Int) (a2 : Int), (Lit.int .i64 a0).wf = true → (Lit.int .i64 a1).wf = true → (Lit.int .i64 a2).wf = true → ∃ k, octroilaw23_MarginOf.f k a0 a1 a2 = some true
theorem octroilaw23_MarginOf.walk (P : octroilaw23_MarginOf.Pure) (a0 : Int) (a1 : Int) (a2 : Int) (w : World) (w0 : (Lit.int .i64 a0).wf = true) (w1 : (Lit.int .i64 a1).wf = true) (w2 : (Lit.int .i64 a2).wf = true) :
    Calls Try.prog 3 #[.int .i64 a0, .int .i64 a1, .int .i64 a2] w fun e w' => e = .returned (.bool true) ∧ Below w.heap.size w w' := by
  obtain ⟨k, h⟩ := P a0 a1 a2 w0 w1 w2
  refine (octroilaw23_MarginOf.calls k a0 a1 a2 true w h).mono ?_
  rintro e w' ⟨rfl, hd⟩
  exact ⟨rfl, hd⟩

end Go.Proofs.Ytdhmhdhfgojofaa.Print
