-- By a program of this session's (wip/myprint.py), over the kit's print. Not trusted: Lean checks it.
import Derived.Test.YtcheokphnhjomaaX0
import Derived.Test.YtcheokphnhjomaaX2
import Derived.Test.YtcheokphnhjomaaX8
import Derived.Test.YtcheokphnhjomaaX9
import Derived.Test.YtcheokphnhjomaaX10
namespace Go.Proofs.Ytcheokphnhjomaa.Print
open Go.RowKit Go.Proofs.YtcheokphnhjomaaW.PrintWords Go.Proofs.YtcheokphnhjomaaW.PrintLast Go.Proofs.YtcheokphnhjomaaW.PrintMore
attribute [local go_sem] max2_int min2_int max_two min_two max_three min_three max_four min_four   -- for this text's walks alone
set_option linter.unusedVariables false
set_option linter.unusedSimpArgs false

/-! ### octroilaw02_WideTaxes: function 6 -/
def octroilaw02_WideTaxes.f (a0 : Int) (a1 : Int) (a2 : Int) : Option (Bool) := (wide_Tax.f a0 a1).bind fun bt258 => ((octroiref02_Tax.f a0 a1).bind fun bt260 => ((wide_Inside.f a0 a1).bind fun bt262 => ((octroiref02_Inside.f a0 a1).bind fun bt264 => ((wide_Percent.f a0 a2).bind fun bt266 => ((octroiref02_Percent.f a0 a2).bind fun bt268 => (if bt258.1 = bt260.1 then (if bt258.2 = bt260.2 then (if bt262.1 = bt264.1 then (if bt262.2 = bt264.2 then (if bt266.1 = bt268.1 then (if bt266.2 = bt268.2 then ((octroilaw02_lives.f).bind fun t270 => (some t270)) else (none)) else (none)) else (none)) else (none)) else (none)) else (none)))))))
set_option maxHeartbeats 8000000 in
set_option maxRecDepth 100000 in
theorem octroilaw02_WideTaxes.calls (a0 : Int) (a1 : Int) (a2 : Int) (r : Bool) (w : World) (h : octroilaw02_WideTaxes.f a0 a1 a2 = some r) :
    Calls Try.prog 6 #[.int .i64 a0, .int .i64 a1, .int .i64 a2] w fun e w' => e = .returned (.bool r) ∧ Below w.heap.size w w' := by
  have HB := Aside0.mk (Below.refl w.heap.size w)
  have H : ((wide_Tax.f a0 a1).bind fun bt258 => ((octroiref02_Tax.f a0 a1).bind fun bt260 => ((wide_Inside.f a0 a1).bind fun bt262 => ((octroiref02_Inside.f a0 a1).bind fun bt264 => ((wide_Percent.f a0 a2).bind fun bt266 => ((octroiref02_Percent.f a0 a2).bind fun bt268 => (if bt258.1 = bt260.1 then (if bt258.2 = bt260.2 then (if bt262.1 = bt264.1 then (if bt262.2 = bt264.2 then (if bt266.1 = bt268.1 then (if bt266.2 = bt268.2 then ((octroilaw02_lives.f).bind fun t270 => (some t270)) else (none)) else (none)) else (none)) else (none)) else (none)) else (none)))))))) = some r := h
  clear h
  replace H := Option.bind_eq_some_iff.mp H
  obtain ⟨⟨t258, t259⟩, A40, H⟩ := H
  replace H : ((octroiref02_Tax.f a0 a1).bind fun bt260 => ((wide_Inside.f a0 a1).bind fun bt262 => ((octroiref02_Inside.f a0 a1).bind fun bt264 => ((wide_Percent.f a0 a2).bind fun bt266 => ((octroiref02_Percent.f a0 a2).bind fun bt268 => (if t258 = bt260.1 then (if t259 = bt260.2 then (if bt262.1 = bt264.1 then (if bt262.2 = bt264.2 then (if bt266.1 = bt268.1 then (if bt266.2 = bt268.2 then ((octroilaw02_lives.f).bind fun t270 => (some t270)) else (none)) else (none)) else (none)) else (none)) else (none)) else (none))))))) = some r := H
  have A4 := Aside0.mk A40
  clear A40
  replace H := Option.bind_eq_some_iff.mp H
  obtain ⟨⟨t260, t261⟩, A50, H⟩ := H
  replace H : ((wide_Inside.f a0 a1).bind fun bt262 => ((octroiref02_Inside.f a0 a1).bind fun bt264 => ((wide_Percent.f a0 a2).bind fun bt266 => ((octroiref02_Percent.f a0 a2).bind fun bt268 => (if t258 = t260 then (if t259 = t261 then (if bt262.1 = bt264.1 then (if bt262.2 = bt264.2 then (if bt266.1 = bt268.1 then (if bt266.2 = bt268.2 then ((octroilaw02_lives.f).bind fun t270 => (some t270)) else (none)) else (none)) else (none)) else (none)) else (none)) else (none)))))) = some r := H
  have A5 := Aside0.mk A50
  clear A50
  replace H := Option.bind_eq_some_iff.mp H
  obtain ⟨⟨t262, t263⟩, A60, H⟩ := H
  replace H : ((octroiref02_Inside.f a0 a1).bind fun bt264 => ((wide_Percent.f a0 a2).bind fun bt266 => ((octroiref02_Percent.f a0 a2).bind fun bt268 => (if t258 = t260 then (if t259 = t261 then (if t262 = bt264.1 then (if t263 = bt264.2 then (if bt266.1 = bt268.1 then (if bt266.2 = bt268.2 then ((octroilaw02_lives.f).bind fun t270 => (some t270)) else (none)) else (none)) else (none)) else (none)) else (none)) else (none))))) = some r := H
  have A6 := Aside0.mk A60
  clear A60
  replace H := Option.bind_eq_some_iff.mp H
  obtain ⟨⟨t264, t265⟩, A70, H⟩ := H
  replace H : ((wide_Percent.f a0 a2).bind fun bt266 => ((octroiref02_Percent.f a0 a2).bind fun bt268 => (if t258 = t260 then (if t259 = t261 then (if t262 = t264 then (if t263 = t265 then (if bt266.1 = bt268.1 then (if bt266.2 = bt268.2 then ((octroilaw02_lives.f).bind fun t270 => (some t270)) else (none)) else (none)) else (none)) else (none)) else (none)) else (none)))) = some r := H
  have A7 := Aside0.mk A70
  clear A70
  replace H := Option.bind_eq_some_iff.mp H
  obtain ⟨⟨t266, t267⟩, A80, H⟩ := H
  replace H : ((octroiref02_Percent.f a0 a2).bind fun bt268 => (if t258 = t260 then (if t259 = t261 then (if t262 = t264 then (if t263 = t265 then (if t266 = bt268.1 then (if t267 = bt268.2 then ((octroilaw02_lives.f).bind fun t270 => (some t270)) else (none)) else (none)) else (none)) else (none)) else (none)) else (none))) = some r := H
  have A8 := Aside0.mk A80
  clear A80
  replace H := Option.bind_eq_some_iff.mp H
  obtain ⟨⟨t268, t269⟩, A90, H⟩ := H
  replace H : (if t258 = t260 then (if t259 = t261 then (if t262 = t264 then (if t263 = t265 then (if t266 = t268 then (if t267 = t269 then ((octroilaw02_lives.f).bind fun t270 => (some t270)) else (none)) else (none)) else (none)) else (none)) else (none)) else (none)) = some r := H
  have A9 := Aside0.mk A90
  clear A90
  by_cases c10 : t258 = t260
  · rw [if_pos c10] at H
    have c10b0 : (t258 == t260) = true := beq_iff_eq.mpr c10
    have c10b1 : (t258 != t260) = false := bne_eq_false_iff_eq.mpr c10
    clear c10
    by_cases c11 : t259 = t261
    · rw [if_pos c11] at H
      have c11b0 : (t259 == t261) = true := beq_iff_eq.mpr c11
      have c11b1 : (t259 != t261) = false := bne_eq_false_iff_eq.mpr c11
      clear c11
      by_cases c12 : t262 = t264
      · rw [if_pos c12] at H
        have c12b0 : (t262 == t264) = true := beq_iff_eq.mpr c12
        have c12b1 : (t262 != t264) = false := bne_eq_false_iff_eq.mpr c12
        clear c12
        by_cases c13 : t263 = t265
        · rw [if_pos c13] at H
          have c13b0 : (t263 == t265) = true := beq_iff_eq.mpr c13
          have c13b1 : (t263 != t265) = false := bne_eq_false_iff_eq.mpr c13
          clear c13
          by_cases c14 : t266 = t268
          · rw [if_pos c14] at H
            have c14b0 : (t266 == t268) = true := beq_iff_eq.mpr c14
            have c14b1 : (t266 != t268) = false := bne_eq_false_iff_eq.mpr c14
            clear c14
            by_cases c15 : t267 = t269
            · rw [if_pos c15] at H
              have c15b0 : (t267 == t269) = true := beq_iff_eq.mpr c15
              have c15b1 : (t267 != t269) = false := bne_eq_false_iff_eq.mpr c15
              clear c15
              replace H := Option.bind_eq_some_iff.mp H
              obtain ⟨t270, A160, H⟩ := H
              replace H : (some t270) = some r := H
              have A16 := Aside0.mk A160
              clear A160
              obtain rfl := Option.some.inj H
              go_enter Try.func6, Try.ntmps6
              go_wp2_with (first | ((with_reducible refine gate_callee (f := 11) rfl ?_); refine goesL_ (some 22) rfl rfl Try.func11 (by kernel_rfl) rfl #[.int .i64 a0, .int .i64 a1] rfl (by (try simp only [List.map_toArray, List.map_cons, List.map_nil]); first | done | rfl | (simp only [List.length_drop, List.length_take]; rfl)) ?_; (with_reducible refine (wide_Tax.calls a0 a1 t258 t259 _ A4.out).mono ?_); rintro e w17 ⟨rfl, hb⟩; refine ⟨_, rfl, ?_⟩; have n0_ := Aside0.mk (below_step (by repeat (first | (with_reducible first | exact HB.out | apply below_alloc | apply pw_below_drewN | apply below_drew1) | exact HB.out)) hb); clear HB; have HB := n0_; clear n0_; (try clear hb); (try clear hb2); (try clear hk); (try clear hi)) | ((with_reducible refine gate_callee (f := 13) rfl ?_); refine goesL_ (some 28) rfl rfl Try.func13 (by kernel_rfl) rfl #[.int .i64 a0, .int .i64 a1] rfl (by (try simp only [List.map_toArray, List.map_cons, List.map_nil]); first | done | rfl | (simp only [List.length_drop, List.length_take]; rfl)) ?_; (with_reducible refine (octroiref02_Tax.calls a0 a1 t260 t261 _ A5.out).mono ?_); rintro e w18 ⟨rfl, hb⟩; refine ⟨_, rfl, ?_⟩; have n0_ := Aside0.mk (below_step (by repeat (first | (with_reducible first | exact HB.out | apply below_alloc | apply pw_below_drewN | apply below_drew1) | exact HB.out)) hb); clear HB; have HB := n0_; clear n0_; (try clear hb); (try clear hb2); (try clear hk); (try clear hi)) | ((with_reducible refine gate_callee (f := 12) rfl ?_); refine goesL_ (some 34) rfl rfl Try.func12 (by kernel_rfl) rfl #[.int .i64 a0, .int .i64 a1] rfl (by (try simp only [List.map_toArray, List.map_cons, List.map_nil]); first | done | rfl | (simp only [List.length_drop, List.length_take]; rfl)) ?_; (with_reducible refine (wide_Inside.calls a0 a1 t262 t263 _ A6.out).mono ?_); rintro e w19 ⟨rfl, hb⟩; refine ⟨_, rfl, ?_⟩; have n0_ := Aside0.mk (below_step (by repeat (first | (with_reducible first | exact HB.out | apply below_alloc | apply pw_below_drewN | apply below_drew1) | exact HB.out)) hb); clear HB; have HB := n0_; clear n0_; (try clear hb); (try clear hb2); (try clear hk); (try clear hi)) | ((with_reducible refine gate_callee (f := 14) rfl ?_); refine goesL_ (some 40) rfl rfl Try.func14 (by kernel_rfl) rfl #[.int .i64 a0, .int .i64 a1] rfl (by (try simp only [List.map_toArray, List.map_cons, List.map_nil]); first | done | rfl | (simp only [List.length_drop, List.length_take]; rfl)) ?_; (with_reducible refine (octroiref02_Inside.calls a0 a1 t264 t265 _ A7.out).mono ?_); rintro e w20 ⟨rfl, hb⟩; refine ⟨_, rfl, ?_⟩; have n0_ := Aside0.mk (below_step (by repeat (first | (with_reducible first | exact HB.out | apply below_alloc | apply pw_below_drewN | apply below_drew1) | exact HB.out)) hb); clear HB; have HB := n0_; clear n0_; (try clear hb); (try clear hb2); (try clear hk); (try clear hi)) | ((with_reducible refine gate_callee (f := 15) rfl ?_); refine goesL_ (some 46) rfl rfl Try.func15 (by kernel_rfl) rfl #[.int .i64 a0, .int .i64 a2] rfl (by (try simp only [List.map_toArray, List.map_cons, List.map_nil]); first | done | rfl | (simp only [List.length_drop, List.length_take]; rfl)) ?_; (with_reducible refine (wide_Percent.calls a0 a2 t266 t267 _ A8.out).mono ?_); rintro e w21 ⟨rfl, hb⟩; refine ⟨_, rfl, ?_⟩; have n0_ := Aside0.mk (below_step (by repeat (first | (with_reducible first | exact HB.out | apply below_alloc | apply pw_below_drewN | apply below_drew1) | exact HB.out)) hb); clear HB; have HB := n0_; clear n0_; (try clear hb); (try clear hb2); (try clear hk); (try clear hi)) | ((with_reducible refine gate_callee (f := 16) rfl ?_); refine goesL_ (some 52) rfl rfl Try.func16 (by kernel_rfl) rfl #[.int .i64 a0, .int .i64 a2] rfl (by (try simp only [List.map_toArray, List.map_cons, List.map_nil]); first | done | rfl | (simp only [List.length_drop, List.length_take]; rfl)) ?_; (with_reducible refine (octroiref02_Percent.calls a0 a2 t268 t269 _ A9.out).mono ?_); rintro e w22 ⟨rfl, hb⟩; refine ⟨_, rfl, ?_⟩; have n0_ := Aside0.mk (below_step (by repeat (first | (with_reducible first | exact HB.out | apply below_alloc | apply pw_below_drewN | apply below_drew1) | exact HB.out)) hb); clear HB; have HB := n0_; clear n0_; (try clear hb); (try clear hb2); (try clear hk); (try clear hi)) | (go_at_call 9; (with_reducible refine (octroilaw02_lives.calls  t270 _ A16.out).mono ?_); rintro e w23 ⟨rfl, hb⟩; have n0_ := Aside0.mk (below_step (by repeat (first | (with_reducible first | exact HB.out | apply below_alloc | apply pw_below_drewN | apply below_drew1) | exact HB.out)) hb); clear HB; have HB := n0_; clear n0_; (try clear hb); (try clear hb2); (try clear hk); (try clear hi)))
              go_ret
              exact ⟨by first | rfl | (simp [errW_none, errW_some] <;> rfl) | (simp [*, errW_none, errW_some] <;> rfl), by repeat (first | (with_reducible first | exact HB.out | apply below_alloc | apply pw_below_drewN | apply below_drew1) | exact HB.out)⟩
            · rw [if_neg c15] at H
              exact absurd H (by simp)
          · rw [if_neg c14] at H
            exact absurd H (by simp)
        · rw [if_neg c13] at H
          exact absurd H (by simp)
      · rw [if_neg c12] at H
        exact absurd H (by simp)
    · rw [if_neg c11] at H
      exact absurd H (by simp)
  · rw [if_neg c10] at H
    exact absurd H (by simp)

/-- THE ONE PURE STATEMENT of octroilaw02_WideTaxes: yours. -/
def octroilaw02_WideTaxes.Pure : Prop := ∀ (a0 : Int) (a1 : Int) (a2 : Int), (Lit.int .i64 a0).wf = true → (Lit.int .i64 a1).wf = true → (Lit.int .i64 a2).wf = true → octroilaw02_WideTaxes.f a0 a1 a2 = some true
theorem octroilaw02_WideTaxes.walk (P : octroilaw02_WideTaxes.Pure) (a0 : Int) (a1 : Int) (a2 : Int) (w : World) (w0 : (Lit.int .i64 a0).wf = true) (w1 : (Lit.int .i64 a1).wf = true) (w2 : (Lit.int .i64 a2).wf = true) :
    Calls Try.prog 6 #[.int .i64 a0, .int .i64 a1, .int .i64 a2] w fun e w' => e = .returned (.bool true) ∧ Below w.heap.size w w' := by
  have h := P a0 a1 a2 w0 w1 w2
  refine (octroilaw02_WideTaxes.calls a0 a1 a2 true w h).mono ?_
  rintro e w' ⟨rfl, hd⟩
  exact ⟨rfl, hd⟩

end Go.Proofs.Ytcheokphnhjomaa.Print
