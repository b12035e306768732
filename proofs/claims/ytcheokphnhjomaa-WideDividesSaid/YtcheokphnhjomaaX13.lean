-- By a program of this session's (wip/myprint.py), over the kit's print. Not trusted: Lean checks it.
import Derived.Test.YtcheokphnhjomaaX0
import Derived.Test.YtcheokphnhjomaaX2
import Derived.Test.YtcheokphnhjomaaRefCE
import Derived.Test.YtcheokphnhjomaaRefMD
import Derived.Test.YtcheokphnhjomaaWideC
namespace Go.Proofs.Ytcheokphnhjomaa.Print
open Go.RowKit Go.Proofs.YtcheokphnhjomaaW.PrintWords Go.Proofs.YtcheokphnhjomaaW.PrintLast Go.Proofs.YtcheokphnhjomaaW.PrintMore
attribute [local go_sem] max2_int min2_int max_two min_two max_three min_three max_four min_four   -- for this text's walks alone
set_option linter.unusedVariables false
set_option linter.unusedSimpArgs false

/-! ### octroilaw02_WideDivides: function 7 -/
def octroilaw02_WideDivides.f (a0 : Int) (a1 : Int) (a2 : Int) : Option (Bool) := (wide_MulDiv.f a0 a1 a2).bind fun bt298 => ((octroiref02_MulDiv.f a0 a1 a2).bind fun bt300 => ((wide_Ceil.f a0 a1 a2).bind fun bt302 => ((octroiref02_Ceil.f a0 a1 a2).bind fun bt304 => (if bt298.1 = bt300.1 then (if bt298.2 = bt300.2 then (if bt302.1 = bt304.1 then (if bt302.2 = bt304.2 then ((octroilaw02_lives.f).bind fun t306 => (some t306)) else (none)) else (none)) else (none)) else (none)))))
set_option maxHeartbeats 8000000 in
set_option maxRecDepth 100000 in
theorem octroilaw02_WideDivides.calls (a0 : Int) (a1 : Int) (a2 : Int) (r : Bool) (w : World) (h : octroilaw02_WideDivides.f a0 a1 a2 = some r) :
    Calls Try.prog 7 #[.int .i64 a0, .int .i64 a1, .int .i64 a2] w fun e w' => e = .returned (.bool r) ∧ Below w.heap.size w w' := by
  have HB := Aside0.mk (Below.refl w.heap.size w)
  have H : ((wide_MulDiv.f a0 a1 a2).bind fun bt298 => ((octroiref02_MulDiv.f a0 a1 a2).bind fun bt300 => ((wide_Ceil.f a0 a1 a2).bind fun bt302 => ((octroiref02_Ceil.f a0 a1 a2).bind fun bt304 => (if bt298.1 = bt300.1 then (if bt298.2 = bt300.2 then (if bt302.1 = bt304.1 then (if bt302.2 = bt304.2 then ((octroilaw02_lives.f).bind fun t306 => (some t306)) else (none)) else (none)) else (none)) else (none)))))) = some r := h
  clear h
  replace H := Option.bind_eq_some_iff.mp H
  obtain ⟨⟨t298, t299⟩, A40, H⟩ := H
  replace H : ((octroiref02_MulDiv.f a0 a1 a2).bind fun bt300 => ((wide_Ceil.f a0 a1 a2).bind fun bt302 => ((octroiref02_Ceil.f a0 a1 a2).bind fun bt304 => (if t298 = bt300.1 then (if t299 = bt300.2 then (if bt302.1 = bt304.1 then (if bt302.2 = bt304.2 then ((octroilaw02_lives.f).bind fun t306 => (some t306)) else (none)) else (none)) else (none)) else (none))))) = some r := H
  have A4 := Aside0.mk A40
  clear A40
  replace H := Option.bind_eq_some_iff.mp H
  obtain ⟨⟨t300, t301⟩, A50, H⟩ := H
  replace H : ((wide_Ceil.f a0 a1 a2).bind fun bt302 => ((octroiref02_Ceil.f a0 a1 a2).bind fun bt304 => (if t298 = t300 then (if t299 = t301 then (if bt302.1 = bt304.1 then (if bt302.2 = bt304.2 then ((octroilaw02_lives.f).bind fun t306 => (some t306)) else (none)) else (none)) else (none)) else (none)))) = some r := H
  have A5 := Aside0.mk A50
  clear A50
  replace H := Option.bind_eq_some_iff.mp H
  obtain ⟨⟨t302, t303⟩, A60, H⟩ := H
  replace H : ((octroiref02_Ceil.f a0 a1 a2).bind fun bt304 => (if t298 = t300 then (if t299 = t301 then (if t302 = bt304.1 then (if t303 = bt304.2 then ((octroilaw02_lives.f).bind fun t306 => (some t306)) else (none)) else (none)) else (none)) else (none))) = some r := H
  have A6 := Aside0.mk A60
  clear A60
  replace H := Option.bind_eq_some_iff.mp H
  obtain ⟨⟨t304, t305⟩, A70, H⟩ := H
  replace H : (if t298 = t300 then (if t299 = t301 then (if t302 = t304 then (if t303 = t305 then ((octroilaw02_lives.f).bind fun t306 => (some t306)) else (none)) else (none)) else (none)) else (none)) = some r := H
  have A7 := Aside0.mk A70
  clear A70
  by_cases c8 : t298 = t300
  · rw [if_pos c8] at H
    have c8b0 : (t298 == t300) = true := beq_iff_eq.mpr c8
    have c8b1 : (t298 != t300) = false := bne_eq_false_iff_eq.mpr c8
    clear c8
    by_cases c9 : t299 = t301
    · rw [if_pos c9] at H
      have c9b0 : (t299 == t301) = true := beq_iff_eq.mpr c9
      have c9b1 : (t299 != t301) = false := bne_eq_false_iff_eq.mpr c9
      clear c9
      by_cases c10 : t302 = t304
      · rw [if_pos c10] at H
        have c10b0 : (t302 == t304) = true := beq_iff_eq.mpr c10
        have c10b1 : (t302 != t304) = false := bne_eq_false_iff_eq.mpr c10
        clear c10
        by_cases c11 : t303 = t305
        · rw [if_pos c11] at H
          have c11b0 : (t303 == t305) = true := beq_iff_eq.mpr c11
          have c11b1 : (t303 != t305) = false := bne_eq_false_iff_eq.mpr c11
          clear c11
          replace H := Option.bind_eq_some_iff.mp H
          obtain ⟨t306, A120, H⟩ := H
          replace H : (some t306) = some r := H
          have A12 := Aside0.mk A120
          clear A120
          obtain rfl := Option.some.inj H
          go_enter Try.func7, Try.ntmps7
          go_wp2_with (first | ((with_reducible refine gate_callee (f := 10) rfl ?_); refine goesL_ (some 19) rfl rfl Try.func10 (by kernel_rfl) rfl #[.int .i64 a0, .int .i64 a1, .int .i64 a2] rfl (by (try simp only [List.map_toArray, List.map_cons, List.map_nil]); first | done | rfl | (simp only [List.length_drop, List.length_take]; rfl)) ?_; (with_reducible refine (wide_MulDiv.calls a0 a1 a2 t298 t299 _ A4.out).mono ?_); rintro e w13 ⟨rfl, hb⟩; refine ⟨_, rfl, ?_⟩; have n0_ := Aside0.mk (below_step (by repeat (first | (with_reducible first | exact HB.out | apply below_alloc | apply pw_below_drewN | apply below_drew1) | exact HB.out)) hb); clear HB; have HB := n0_; clear n0_; (try clear hb); (try clear hb2); (try clear hk); (try clear hi)) | ((with_reducible refine gate_callee (f := 17) rfl ?_); refine goesL_ (some 26) rfl rfl Try.func17 (by kernel_rfl) rfl #[.int .i64 a0, .int .i64 a1, .int .i64 a2] rfl (by (try simp only [List.map_toArray, List.map_cons, List.map_nil]); first | done | rfl | (simp only [List.length_drop, List.length_take]; rfl)) ?_; (with_reducible refine (octroiref02_MulDiv.calls a0 a1 a2 t300 t301 _ A5.out).mono ?_); rintro e w14 ⟨rfl, hb⟩; refine ⟨_, rfl, ?_⟩; have n0_ := Aside0.mk (below_step (by repeat (first | (with_reducible first | exact HB.out | apply below_alloc | apply pw_below_drewN | apply below_drew1) | exact HB.out)) hb); clear HB; have HB := n0_; clear n0_; (try clear hb); (try clear hb2); (try clear hk); (try clear hi)) | ((with_reducible refine gate_callee (f := 18) rfl ?_); refine goesL_ (some 33) rfl rfl Try.func18 (by kernel_rfl) rfl #[.int .i64 a0, .int .i64 a1, .int .i64 a2] rfl (by (try simp only [List.map_toArray, List.map_cons, List.map_nil]); first | done | rfl | (simp only [List.length_drop, List.length_take]; rfl)) ?_; (with_reducible refine (wide_Ceil.calls a0 a1 a2 t302 t303 _ A6.out).mono ?_); rintro e w15 ⟨rfl, hb⟩; refine ⟨_, rfl, ?_⟩; have n0_ := Aside0.mk (below_step (by repeat (first | (with_reducible first | exact HB.out | apply below_alloc | apply pw_below_drewN | apply below_drew1) | exact HB.out)) hb); clear HB; have HB := n0_; clear n0_; (try clear hb); (try clear hb2); (try clear hk); (try clear hi)) | ((with_reducible refine gate_callee (f := 19) rfl ?_); refine goesL_ (some 40) rfl rfl Try.func19 (by kernel_rfl) rfl #[.int .i64 a0, .int .i64 a1, .int .i64 a2] rfl (by (try simp only [List.map_toArray, List.map_cons, List.map_nil]); first | done | rfl | (simp only [List.length_drop, List.length_take]; rfl)) ?_; (with_reducible refine (octroiref02_Ceil.calls a0 a1 a2 t304 t305 _ A7.out).mono ?_); rintro e w16 ⟨rfl, hb⟩; refine ⟨_, rfl, ?_⟩; have n0_ := Aside0.mk (below_step (by repeat (first | (with_reducible first | exact HB.out | apply below_alloc | apply pw_below_drewN | apply below_drew1) | exact HB.out)) hb); clear HB; have HB := n0_; clear n0_; (try clear hb); (try clear hb2); (try clear hk); (try clear hi)) | (go_at_call 9; (with_reducible refine (octroilaw02_lives.calls  t306 _ A12.out).mono ?_); rintro e w17 ⟨rfl, hb⟩; have n0_ := Aside0.mk (below_step (by repeat (first | (with_reducible first | exact HB.out | apply below_alloc | apply pw_below_drewN | apply below_drew1) | exact HB.out)) hb); clear HB; have HB := n0_; clear n0_; (try clear hb); (try clear hb2); (try clear hk); (try clear hi)))
          go_ret
          exact ⟨by first | rfl | (simp [errW_none, errW_some] <;> rfl) | (simp [*, errW_none, errW_some] <;> rfl), by repeat (first | (with_reducible first | exact HB.out | apply below_alloc | apply pw_below_drewN | apply below_drew1) | exact HB.out)⟩
        · rw [if_neg c11] at H
          exact absurd H (by simp)
      · rw [if_neg c10] at H
        exact absurd H (by simp)
    · rw [if_neg c9] at H
      exact absurd H (by simp)
  · rw [if_neg c8] at H
    exact absurd H (by simp)

/-- THE ONE PURE STATEMENT of octroilaw02_WideDivides: yours. -/
def octroilaw02_WideDivides.Pure : Prop := ∀ (a0 : Int) (a1 : Int) (a2 : Int), (Lit.int .i64 a0).wf = true → (Lit.int .i64 a1).wf = true → (Lit.int .i64 a2).wf = true → octroilaw02_WideDivides.f a0 a1 a2 = some true
theorem octroilaw02_WideDivides.walk (P : octroilaw02_WideDivides.Pure) (a0 : Int) (a1 : Int) (a2 : Int) (w : World) (w0 : (Lit.int .i64 a0).wf = true) (w1 : (Lit.int .i64 a1).wf = true) (w2 : (Lit.int .i64 a2).wf = true) :
    Calls Try.prog 7 #[.int .i64 a0, .int .i64 a1, .int .i64 a2] w fun e w' => e = .returned (.bool true) ∧ Below w.heap.size w w' := by
  have h := P a0 a1 a2 w0 w1 w2
  refine (octroilaw02_WideDivides.calls a0 a1 a2 true w h).mono ?_
  rintro e w' ⟨rfl, hd⟩
  exact ⟨rfl, hd⟩

end Go.Proofs.Ytcheokphnhjomaa.Print
