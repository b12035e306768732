-- By a program of this session's (wip/myprint.py), over the kit's print. Not trusted: Lean checks it.
import Derived.Test.YtfmihohfkphamaaX0
import Derived.Test.YtfmihohfkphamaaX2
import Derived.Test.YtfmihohfkphamaaX3
import Derived.Test.YtfmihohfkphamaaX10
import Derived.Test.YtfmihohfkphamaaX11
import Derived.Test.YtfmihohfkphamaaX12
import Derived.Test.YtfmihohfkphamaaTaxA
namespace Go.Proofs.Ytfmihohfkphamaa.Print
open Go.RowKit Go.Proofs.YtfmihohfkphamaaW.PrintWords Go.Proofs.YtfmihohfkphamaaW.PrintLast Go.Proofs.YtfmihohfkphamaaW.PrintMore
attribute [local go_sem] max2_int min2_int max_two min_two max_three min_three max_four min_four   -- for this text's walks alone
set_option linter.unusedVariables false
set_option linter.unusedSimpArgs false

/-! ### octroilaw21_TaxParts: function 5 -/
def octroilaw21_TaxParts.f (k : Nat) (a0 : Int) (a1 : Bool) (a2 : Int) (a3 : Int) : Option (Bool) := (tax_Part.f a0 a1 a2).bind fun bt269 => ((octroiref21_Part.f k a0 a1 a2).bind fun bt272 => ((tax_Net.f a0 a1 a2).bind fun bt275 => ((tax_Deduct.f k a0 a3 a1).bind fun bt277 => ((octroiref21_Deduct.f k a0 a3 a1).bind fun bt279 => (if bt269.1 = bt272.1 then (if bt269.2.1 = bt272.2.1 then (if bt269.2.2 = bt272.2.2 then (if bt275.1 = bt272.1 then (if bt275.2 = bt272.2.2 then (if bt277.1 = bt279.1 then (if bt277.2 = bt279.2 then ((octroilaw21_lives.f k).bind fun t281 => (some t281)) else (none)) else (none)) else (none)) else (none)) else (none)) else (none)) else (none))))))
theorem octroilaw21_TaxParts.mono : ∀ a0 a1 a2 a3 k, LeO (octroilaw21_TaxParts.f k a0 a1 a2 a3) (octroilaw21_TaxParts.f (k + 1) a0 a1 a2 a3) := by
  intro a0 a1 a2 a3 k
  unfold octroilaw21_TaxParts.f
  repeat' first
      | (with_reducible exact octroilaw21_lives.mono _)
      | (with_reducible exact octroiref21_Deduct.mono _ _ _ _)
      | (with_reducible exact octroiref21_Part.mono _ _ _ _)
      | (with_reducible exact tax_Deduct.mono _ _ _ _)
      | (with_reducible exact LeO.refl _)
      | (with_reducible exact LeO.none _)
      | (with_reducible refine LeO.ite ?_ ?_)
      | (with_reducible refine LeO.bind ?_ (fun _ => ?_))
      | exact octroilaw21_lives.mono _
      | exact octroiref21_Deduct.mono _ _ _ _
      | exact octroiref21_Part.mono _ _ _ _
      | exact tax_Deduct.mono _ _ _ _
      | exact LeO.none _
      | refine LeO.ite ?_ ?_
      | refine LeO.bind ?_ (fun _ => ?_)
set_option maxHeartbeats 8000000 in
set_option maxRecDepth 100000 in
theorem octroilaw21_TaxParts.calls (k : Nat) (a0 : Int) (a1 : Bool) (a2 : Int) (a3 : Int) (r : Bool) (w : World) (h : octroilaw21_TaxParts.f k a0 a1 a2 a3 = some r) :
    Calls Try.prog 5 #[.int .i64 a0, .bool a1, .int .i64 a2, .int .i64 a3] w fun e w' => e = .returned (.bool r) ∧ Below w.heap.size w w' := by
  have HB := Aside0.mk (Below.refl w.heap.size w)
  have H : ((tax_Part.f a0 a1 a2).bind fun bt269 => ((octroiref21_Part.f k a0 a1 a2).bind fun bt272 => ((tax_Net.f a0 a1 a2).bind fun bt275 => ((tax_Deduct.f k a0 a3 a1).bind fun bt277 => ((octroiref21_Deduct.f k a0 a3 a1).bind fun bt279 => (if bt269.1 = bt272.1 then (if bt269.2.1 = bt272.2.1 then (if bt269.2.2 = bt272.2.2 then (if bt275.1 = bt272.1 then (if bt275.2 = bt272.2.2 then (if bt277.1 = bt279.1 then (if bt277.2 = bt279.2 then ((octroilaw21_lives.f k).bind fun t281 => (some t281)) else (none)) else (none)) else (none)) else (none)) else (none)) else (none)) else (none))))))) = some r := h
  clear h
  replace H := Option.bind_eq_some_iff.mp H
  obtain ⟨⟨t269, t270, t271⟩, A50, H⟩ := H
  replace H : ((octroiref21_Part.f k a0 a1 a2).bind fun bt272 => ((tax_Net.f a0 a1 a2).bind fun bt275 => ((tax_Deduct.f k a0 a3 a1).bind fun bt277 => ((octroiref21_Deduct.f k a0 a3 a1).bind fun bt279 => (if t269 = bt272.1 then (if t270 = bt272.2.1 then (if t271 = bt272.2.2 then (if bt275.1 = bt272.1 then (if bt275.2 = bt272.2.2 then (if bt277.1 = bt279.1 then (if bt277.2 = bt279.2 then ((octroilaw21_lives.f k).bind fun t281 => (some t281)) else (none)) else (none)) else (none)) else (none)) else (none)) else (none)) else (none)))))) = some r := H
  have A5 := Aside0.mk A50
  clear A50
  replace H := Option.bind_eq_some_iff.mp H
  obtain ⟨⟨t272, t273, t274⟩, A60, H⟩ := H
  replace H : ((tax_Net.f a0 a1 a2).bind fun bt275 => ((tax_Deduct.f k a0 a3 a1).bind fun bt277 => ((octroiref21_Deduct.f k a0 a3 a1).bind fun bt279 => (if t269 = t272 then (if t270 = t273 then (if t271 = t274 then (if bt275.1 = t272 then (if bt275.2 = t274 then (if bt277.1 = bt279.1 then (if bt277.2 = bt279.2 then ((octroilaw21_lives.f k).bind fun t281 => (some t281)) else (none)) else (none)) else (none)) else (none)) else (none)) else (none)) else (none))))) = some r := H
  have A6 := Aside0.mk A60
  clear A60
  replace H := Option.bind_eq_some_iff.mp H
  obtain ⟨⟨t275, t276⟩, A70, H⟩ := H
  replace H : ((tax_Deduct.f k a0 a3 a1).bind fun bt277 => ((octroiref21_Deduct.f k a0 a3 a1).bind fun bt279 => (if t269 = t272 then (if t270 = t273 then (if t271 = t274 then (if t275 = t272 then (if t276 = t274 then (if bt277.1 = bt279.1 then (if bt277.2 = bt279.2 then ((octroilaw21_lives.f k).bind fun t281 => (some t281)) else (none)) else (none)) else (none)) else (none)) else (none)) else (none)) else (none)))) = some r := H
  have A7 := Aside0.mk A70
  clear A70
  replace H := Option.bind_eq_some_iff.mp H
  obtain ⟨⟨t277, t278⟩, A80, H⟩ := H
  replace H : ((octroiref21_Deduct.f k a0 a3 a1).bind fun bt279 => (if t269 = t272 then (if t270 = t273 then (if t271 = t274 then (if t275 = t272 then (if t276 = t274 then (if t277 = bt279.1 then (if t278 = bt279.2 then ((octroilaw21_lives.f k).bind fun t281 => (some t281)) else (none)) else (none)) else (none)) else (none)) else (none)) else (none)) else (none))) = some r := H
  have A8 := Aside0.mk A80
  clear A80
  replace H := Option.bind_eq_some_iff.mp H
  obtain ⟨⟨t279, t280⟩, A90, H⟩ := H
  replace H : (if t269 = t272 then (if t270 = t273 then (if t271 = t274 then (if t275 = t272 then (if t276 = t274 then (if t277 = t279 then (if t278 = t280 then ((octroilaw21_lives.f k).bind fun t281 => (some t281)) else (none)) else (none)) else (none)) else (none)) else (none)) else (none)) else (none)) = some r := H
  have A9 := Aside0.mk A90
  clear A90
  by_cases c10 : t269 = t272
  · rw [if_pos c10] at H
    have c10b0 : (t269 == t272) = true := beq_iff_eq.mpr c10
    have c10b1 : (t269 != t272) = false := bne_eq_false_iff_eq.mpr c10
    clear c10
    by_cases c11 : t270 = t273
    · rw [if_pos c11] at H
      have c11b0 : (t270 == t273) = true := beq_iff_eq.mpr c11
      have c11b1 : (t270 != t273) = false := bne_eq_false_iff_eq.mpr c11
      clear c11
      by_cases c12 : t271 = t274
      · rw [if_pos c12] at H
        have c12b0 : (t271 == t274) = true := beq_iff_eq.mpr c12
        have c12b1 : (t271 != t274) = false := bne_eq_false_iff_eq.mpr c12
        clear c12
        by_cases c13 : t275 = t272
        · rw [if_pos c13] at H
          have c13b0 : (t275 == t272) = true := beq_iff_eq.mpr c13
          have c13b1 : (t275 != t272) = false := bne_eq_false_iff_eq.mpr c13
          clear c13
          by_cases c14 : t276 = t274
          · rw [if_pos c14] at H
            have c14b0 : (t276 == t274) = true := beq_iff_eq.mpr c14
            have c14b1 : (t276 != t274) = false := bne_eq_false_iff_eq.mpr c14
            clear c14
            by_cases c15 : t277 = t279
            · rw [if_pos c15] at H
              have c15b0 : (t277 == t279) = true := beq_iff_eq.mpr c15
              have c15b1 : (t277 != t279) = false := bne_eq_false_iff_eq.mpr c15
              clear c15
              by_cases c16 : t278 = t280
              · rw [if_pos c16] at H
                have c16b0 : (t278 == t280) = true := beq_iff_eq.mpr c16
                have c16b1 : (t278 != t280) = false := bne_eq_false_iff_eq.mpr c16
                clear c16
                replace H := Option.bind_eq_some_iff.mp H
                obtain ⟨t281, A170, H⟩ := H
                replace H : (some t281) = some r := H
                have A17 := Aside0.mk A170
                clear A170
                obtain rfl := Option.some.inj H
                go_enter Try.func5, Try.ntmps5
                go_wp2_with (first | ((with_reducible refine gate_callee (f := 8) rfl ?_); refine goesL_ (some 25) rfl rfl Try.func8 (by kernel_rfl) rfl #[.int .i64 a0, .bool a1, .int .i64 a2] rfl (by (try simp only [List.map_toArray, List.map_cons, List.map_nil]); first | done | rfl | (simp only [List.length_drop, List.length_take]; rfl)) ?_; (with_reducible refine (tax_Part.calls a0 a1 a2 t269 t270 t271 _ A5.out).mono ?_); rintro e w18 ⟨rfl, hb⟩; refine ⟨_, rfl, ?_⟩; have n0_ := Aside0.mk (below_step (by repeat (first | (with_reducible first | exact HB.out | apply below_alloc | apply pw_below_drewN | apply below_drew1) | exact HB.out)) hb); clear HB; have HB := n0_; clear n0_; (try clear hb); (try clear hb2); (try clear hk); (try clear hi)) | ((with_reducible refine gate_callee (f := 9) rfl ?_); refine goesL_ (some 33) rfl rfl Try.func9 (by kernel_rfl) rfl #[.int .i64 a0, .bool a1, .int .i64 a2] rfl (by (try simp only [List.map_toArray, List.map_cons, List.map_nil]); first | done | rfl | (simp only [List.length_drop, List.length_take]; rfl)) ?_; (with_reducible refine (octroiref21_Part.calls k a0 a1 a2 t272 t273 t274 _ A6.out).mono ?_); rintro e w19 ⟨rfl, hb⟩; refine ⟨_, rfl, ?_⟩; have n0_ := Aside0.mk (below_step (by repeat (first | (with_reducible first | exact HB.out | apply below_alloc | apply pw_below_drewN | apply below_drew1) | exact HB.out)) hb); clear HB; have HB := n0_; clear n0_; (try clear hb); (try clear hb2); (try clear hk); (try clear hi)) | ((with_reducible refine gate_callee (f := 10) rfl ?_); refine goesL_ (some 41) rfl rfl Try.func10 (by kernel_rfl) rfl #[.int .i64 a0, .bool a1, .int .i64 a2] rfl (by (try simp only [List.map_toArray, List.map_cons, List.map_nil]); first | done | rfl | (simp only [List.length_drop, List.length_take]; rfl)) ?_; (with_reducible refine (tax_Net.calls a0 a1 a2 t275 t276 _ A7.out).mono ?_); rintro e w20 ⟨rfl, hb⟩; refine ⟨_, rfl, ?_⟩; have n0_ := Aside0.mk (below_step (by repeat (first | (with_reducible first | exact HB.out | apply below_alloc | apply pw_below_drewN | apply below_drew1) | exact HB.out)) hb); clear HB; have HB := n0_; clear n0_; (try clear hb); (try clear hb2); (try clear hk); (try clear hi)) | ((with_reducible refine gate_callee (f := 11) rfl ?_); refine goesL_ (some 48) rfl rfl Try.func11 (by kernel_rfl) rfl #[.int .i64 a0, .int .i64 a3, .bool a1] rfl (by (try simp only [List.map_toArray, List.map_cons, List.map_nil]); first | done | rfl | (simp only [List.length_drop, List.length_take]; rfl)) ?_; (with_reducible refine (tax_Deduct.calls k a0 a3 a1 t277 t278 _ A8.out).mono ?_); rintro e w21 ⟨rfl, hb⟩; refine ⟨_, rfl, ?_⟩; have n0_ := Aside0.mk (below_step (by repeat (first | (with_reducible first | exact HB.out | apply below_alloc | apply pw_below_drewN | apply below_drew1) | exact HB.out)) hb); clear HB; have HB := n0_; clear n0_; (try clear hb); (try clear hb2); (try clear hk); (try clear hi)) | ((with_reducible refine gate_callee (f := 12) rfl ?_); refine goesL_ (some 55) rfl rfl Try.func12 (by kernel_rfl) rfl #[.int .i64 a0, .int .i64 a3, .bool a1] rfl (by (try simp only [List.map_toArray, List.map_cons, List.map_nil]); first | done | rfl | (simp only [List.length_drop, List.length_take]; rfl)) ?_; (with_reducible refine (octroiref21_Deduct.calls k a0 a3 a1 t279 t280 _ A9.out).mono ?_); rintro e w22 ⟨rfl, hb⟩; refine ⟨_, rfl, ?_⟩; have n0_ := Aside0.mk (below_step (by repeat (first | (with_reducible first | exact HB.out | apply below_alloc | apply pw_below_drewN | apply below_drew1) | exact HB.out)) hb); clear HB; have HB := n0_; clear n0_; (try clear hb); (try clear hb2); (try clear hk); (try clear hi)) | (go_at_call 7; (with_reducible refine (octroilaw21_lives.calls k  t281 _ A17.out).mono ?_); rintro e w23 ⟨rfl, hb⟩; have n0_ := Aside0.mk (below_step (by repeat (first | (with_reducible first | exact HB.out | apply below_alloc | apply pw_below_drewN | apply below_drew1) | exact HB.out)) hb); clear HB; have HB := n0_; clear n0_; (try clear hb); (try clear hb2); (try clear hk); (try clear hi)))
                go_ret
                exact ⟨by first | rfl | (simp [errW_none, errW_some] <;> rfl) | (simp [*, errW_none, errW_some] <;> rfl), by repeat (first | (with_reducible first | exact HB.out | apply below_alloc | apply pw_below_drewN | apply below_drew1) | exact HB.out)⟩
              · rw [if_neg c16] at H
                exact absurd H (by simp)
            · rw [if_neg c15] at H
              exact absurd H (by simp)
          · rw [if_neg c14] at H
            exact absurd H (by simp)
        · rw [if_neg c13] at H
          exact absurd H (by simp)
      · rw [if_neg c12] at H
        exact absurd H (by simp)
    · rw [if_neg c11] at H
      exact absurd H (by simp)
  · rw [if_neg c10] at H
    exact absurd H (by simp)

/-- THE ONE PURE STATEMENT of octroilaw21_TaxParts: yours. -/
def octroilaw21_TaxParts.Pure : Prop := ∀ (a0 : Int) (a1 : Bool) (a2 : Int) (a3 : Int), (Lit.int .i64 a0).wf = true → (Lit.int .i64 a2).wf = true → (Lit.int .i64 a3).wf = true → ∃ k, octroilaw21_TaxParts.f k a0 a1 a2 a3 = some true
theorem octroilaw21_TaxParts.walk (P : octroilaw21_TaxParts.Pure) (a0 : Int) (a1 : Bool) (a2 : Int) (a3 : Int) (w : World) (w0 : (Lit.int .i64 a0).wf = true) (w2 : (Lit.int .i64 a2).wf = true) (w3 : (Lit.int .i64 a3).wf = true) :
    Calls Try.prog 5 #[.int .i64 a0, .bool a1, .int .i64 a2, .int .i64 a3] w fun e w' => e = .returned (.bool true) ∧ Below w.heap.size w w' := by
  obtain ⟨k, h⟩ := P a0 a1 a2 a3 w0 w2 w3
  refine (octroilaw21_TaxParts.calls k a0 a1 a2 a3 true w h).mono ?_
  rintro e w' ⟨rfl, hd⟩
  exact ⟨rfl, hd⟩

end Go.Proofs.Ytfmihohfkphamaa.Print
