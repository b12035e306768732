-- By a program of this session's (wip/myprint.py), over the kit's print. Not trusted: Lean checks it.
import Derived.Test.YtfmihohfkphamaaX0
import Derived.Test.YtfmihohfkphamaaX2
import Derived.Test.YtfmihohfkphamaaTaxA
namespace Go.Proofs.Ytfmihohfkphamaa.Print
open Go.RowKit Go.Proofs.YtfmihohfkphamaaW.PrintWords Go.Proofs.YtfmihohfkphamaaW.PrintLast Go.Proofs.YtfmihohfkphamaaW.PrintMore
attribute [local go_sem] max2_int min2_int max_two min_two max_three min_three max_four min_four   -- for this text's walks alone
set_option linter.unusedVariables false
set_option linter.unusedSimpArgs false

/-! ### octroilaw21_lives: function 7 -/
def octroilaw21_lives.f (k : Nat)  : Option (Bool) := (tax_Part.f 1190 true 1900).bind fun bt109 => ((tax_Deduct.f k 190 33 true).bind fun bt112 => (if bt109.1 = 1000 then (if bt109.2.1 = 190 then (if bt109.2.2 = 0 then (if bt112.1 = 63 then (some (bt112.2 == 0)) else (some false)) else (some false)) else (some false)) else (some false)))
theorem octroilaw21_lives.mono : ∀ k, LeO (octroilaw21_lives.f k ) (octroilaw21_lives.f (k + 1) ) := by
  intro  k
  unfold octroilaw21_lives.f
  repeat' first
      | (with_reducible exact tax_Deduct.mono _ _ _ _)
      | (with_reducible exact LeO.refl _)
      | (with_reducible exact LeO.none _)
      | (with_reducible refine LeO.ite ?_ ?_)
      | (with_reducible refine LeO.bind ?_ (fun _ => ?_))
      | exact tax_Deduct.mono _ _ _ _
      | exact LeO.none _
      | refine LeO.ite ?_ ?_
      | refine LeO.bind ?_ (fun _ => ?_)
set_option maxHeartbeats 8000000 in
set_option maxRecDepth 100000 in
theorem octroilaw21_lives.calls (k : Nat)  (r : Bool) (w : World) (h : octroilaw21_lives.f k  = some r) :
    Calls Try.prog 7 #[] w fun e w' => e = .returned (.bool r) ∧ Below w.heap.size w w' := by
  have HB := Aside0.mk (Below.refl w.heap.size w)
  have H : ((tax_Part.f 1190 true 1900).bind fun bt109 => ((tax_Deduct.f k 190 33 true).bind fun bt112 => (if bt109.1 = 1000 then (if bt109.2.1 = 190 then (if bt109.2.2 = 0 then (if bt112.1 = 63 then (some (bt112.2 == 0)) else (some false)) else (some false)) else (some false)) else (some false)))) = some r := h
  clear h
  replace H := Option.bind_eq_some_iff.mp H
  obtain ⟨⟨t109, t110, t111⟩, A10, H⟩ := H
  replace H : ((tax_Deduct.f k 190 33 true).bind fun bt112 => (if t109 = 1000 then (if t110 = 190 then (if t111 = 0 then (if bt112.1 = 63 then (some (bt112.2 == 0)) else (some false)) else (some false)) else (some false)) else (some false))) = some r := H
  have A1 := Aside0.mk A10
  clear A10
  replace H := Option.bind_eq_some_iff.mp H
  obtain ⟨⟨t112, t113⟩, A20, H⟩ := H
  replace H : (if t109 = 1000 then (if t110 = 190 then (if t111 = 0 then (if t112 = 63 then (some (t113 == 0)) else (some false)) else (some false)) else (some false)) else (some false)) = some r := H
  have A2 := Aside0.mk A20
  clear A20
  by_cases c3 : t109 = 1000
  · rw [if_pos c3] at H
    have c3b0 : (t109 == 1000) = true := beq_iff_eq.mpr c3
    have c3b1 : (t109 != 1000) = false := bne_eq_false_iff_eq.mpr c3
    clear c3
    by_cases c4 : t110 = 190
    · rw [if_pos c4] at H
      have c4b0 : (t110 == 190) = true := beq_iff_eq.mpr c4
      have c4b1 : (t110 != 190) = false := bne_eq_false_iff_eq.mpr c4
      clear c4
      by_cases c5 : t111 = 0
      · rw [if_pos c5] at H
        have c5b0 : (t111 == 0) = true := beq_iff_eq.mpr c5
        have c5b1 : (t111 != 0) = false := bne_eq_false_iff_eq.mpr c5
        clear c5
        by_cases c6 : t112 = 63
        · rw [if_pos c6] at H
          have c6b0 : (t112 == 63) = true := beq_iff_eq.mpr c6
          have c6b1 : (t112 != 63) = false := bne_eq_false_iff_eq.mpr c6
          clear c6
          obtain rfl := Option.some.inj H
          go_enter Try.func7, Try.ntmps7
          go_wp2_with (first | ((with_reducible refine gate_callee (f := 8) rfl ?_); refine goesL_ (some 7) rfl rfl Try.func8 (by kernel_rfl) rfl #[.int .i64 1190, .bool true, .int .i64 1900] rfl (by (try simp only [List.map_toArray, List.map_cons, List.map_nil]); first | done | rfl | (simp only [List.length_drop, List.length_take]; rfl)) ?_; (with_reducible refine (tax_Part.calls 1190 true 1900 t109 t110 t111 _ A1.out).mono ?_); rintro e w7 ⟨rfl, hb⟩; refine ⟨_, rfl, ?_⟩; have n0_ := Aside0.mk (below_step (by repeat (first | (with_reducible first | exact HB.out | apply below_alloc | apply pw_below_drewN | apply below_drew1) | exact HB.out)) hb); clear HB; have HB := n0_; clear n0_; (try clear hb); (try clear hb2); (try clear hk); (try clear hi)) | ((with_reducible refine gate_callee (f := 11) rfl ?_); refine goesL_ (some 12) rfl rfl Try.func11 (by kernel_rfl) rfl #[.int .i64 190, .int .i64 33, .bool true] rfl (by (try simp only [List.map_toArray, List.map_cons, List.map_nil]); first | done | rfl | (simp only [List.length_drop, List.length_take]; rfl)) ?_; (with_reducible refine (tax_Deduct.calls k 190 33 true t112 t113 _ A2.out).mono ?_); rintro e w8 ⟨rfl, hb⟩; refine ⟨_, rfl, ?_⟩; have n0_ := Aside0.mk (below_step (by repeat (first | (with_reducible first | exact HB.out | apply below_alloc | apply pw_below_drewN | apply below_drew1) | exact HB.out)) hb); clear HB; have HB := n0_; clear n0_; (try clear hb); (try clear hb2); (try clear hk); (try clear hi)))
          go_ret
          exact ⟨by first | rfl | (simp [errW_none, errW_some] <;> rfl) | (simp [*, errW_none, errW_some] <;> rfl), by repeat (first | (with_reducible first | exact HB.out | apply below_alloc | apply pw_below_drewN | apply below_drew1) | exact HB.out)⟩
        · rw [if_neg c6] at H
          have c6b0 : (t112 == 63) = false := beq_eq_false_iff_ne.mpr c6
          have c6b1 : (t112 != 63) = true := bne_iff_ne.mpr c6
          obtain rfl := Option.some.inj H
          go_enter Try.func7, Try.ntmps7
          go_wp2_with (first | ((with_reducible refine gate_callee (f := 8) rfl ?_); refine goesL_ (some 7) rfl rfl Try.func8 (by kernel_rfl) rfl #[.int .i64 1190, .bool true, .int .i64 1900] rfl (by (try simp only [List.map_toArray, List.map_cons, List.map_nil]); first | done | rfl | (simp only [List.length_drop, List.length_take]; rfl)) ?_; (with_reducible refine (tax_Part.calls 1190 true 1900 t109 t110 t111 _ A1.out).mono ?_); rintro e w9 ⟨rfl, hb⟩; refine ⟨_, rfl, ?_⟩; have n0_ := Aside0.mk (below_step (by repeat (first | (with_reducible first | exact HB.out | apply below_alloc | apply pw_below_drewN | apply below_drew1) | exact HB.out)) hb); clear HB; have HB := n0_; clear n0_; (try clear hb); (try clear hb2); (try clear hk); (try clear hi)) | ((with_reducible refine gate_callee (f := 11) rfl ?_); refine goesL_ (some 12) rfl rfl Try.func11 (by kernel_rfl) rfl #[.int .i64 190, .int .i64 33, .bool true] rfl (by (try simp only [List.map_toArray, List.map_cons, List.map_nil]); first | done | rfl | (simp only [List.length_drop, List.length_take]; rfl)) ?_; (with_reducible refine (tax_Deduct.calls k 190 33 true t112 t113 _ A2.out).mono ?_); rintro e w10 ⟨rfl, hb⟩; refine ⟨_, rfl, ?_⟩; have n0_ := Aside0.mk (below_step (by repeat (first | (with_reducible first | exact HB.out | apply below_alloc | apply pw_below_drewN | apply below_drew1) | exact HB.out)) hb); clear HB; have HB := n0_; clear n0_; (try clear hb); (try clear hb2); (try clear hk); (try clear hi)))
          go_ret
          exact ⟨by first | rfl | (simp [errW_none, errW_some] <;> rfl) | (simp [*, errW_none, errW_some] <;> rfl), by repeat (first | (with_reducible first | exact HB.out | apply below_alloc | apply pw_below_drewN | apply below_drew1) | exact HB.out)⟩
      · rw [if_neg c5] at H
        have c5b0 : (t111 == 0) = false := beq_eq_false_iff_ne.mpr c5
        have c5b1 : (t111 != 0) = true := bne_iff_ne.mpr c5
        obtain rfl := Option.some.inj H
        go_enter Try.func7, Try.ntmps7
        go_wp2_with (first | ((with_reducible refine gate_callee (f := 8) rfl ?_); refine goesL_ (some 7) rfl rfl Try.func8 (by kernel_rfl) rfl #[.int .i64 1190, .bool true, .int .i64 1900] rfl (by (try simp only [List.map_toArray, List.map_cons, List.map_nil]); first | done | rfl | (simp only [List.length_drop, List.length_take]; rfl)) ?_; (with_reducible refine (tax_Part.calls 1190 true 1900 t109 t110 t111 _ A1.out).mono ?_); rintro e w11 ⟨rfl, hb⟩; refine ⟨_, rfl, ?_⟩; have n0_ := Aside0.mk (below_step (by repeat (first | (with_reducible first | exact HB.out | apply below_alloc | apply pw_below_drewN | apply below_drew1) | exact HB.out)) hb); clear HB; have HB := n0_; clear n0_; (try clear hb); (try clear hb2); (try clear hk); (try clear hi)) | ((with_reducible refine gate_callee (f := 11) rfl ?_); refine goesL_ (some 12) rfl rfl Try.func11 (by kernel_rfl) rfl #[.int .i64 190, .int .i64 33, .bool true] rfl (by (try simp only [List.map_toArray, List.map_cons, List.map_nil]); first | done | rfl | (simp only [List.length_drop, List.length_take]; rfl)) ?_; (with_reducible refine (tax_Deduct.calls k 190 33 true t112 t113 _ A2.out).mono ?_); rintro e w12 ⟨rfl, hb⟩; refine ⟨_, rfl, ?_⟩; have n0_ := Aside0.mk (below_step (by repeat (first | (with_reducible first | exact HB.out | apply below_alloc | apply pw_below_drewN | apply below_drew1) | exact HB.out)) hb); clear HB; have HB := n0_; clear n0_; (try clear hb); (try clear hb2); (try clear hk); (try clear hi)))
        go_ret
        exact ⟨by first | rfl | (simp [errW_none, errW_some] <;> rfl) | (simp [*, errW_none, errW_some] <;> rfl), by repeat (first | (with_reducible first | exact HB.out | apply below_alloc | apply pw_below_drewN | apply below_drew1) | exact HB.out)⟩
    · rw [if_neg c4] at H
      have c4b0 : (t110 == 190) = false := beq_eq_false_iff_ne.mpr c4
      have c4b1 : (t110 != 190) = true := bne_iff_ne.mpr c4
      obtain rfl := Option.some.inj H
      go_enter Try.func7, Try.ntmps7
      go_wp2_with (first | ((with_reducible refine gate_callee (f := 8) rfl ?_); refine goesL_ (some 7) rfl rfl Try.func8 (by kernel_rfl) rfl #[.int .i64 1190, .bool true, .int .i64 1900] rfl (by (try simp only [List.map_toArray, List.map_cons, List.map_nil]); first | done | rfl | (simp only [List.length_drop, List.length_take]; rfl)) ?_; (with_reducible refine (tax_Part.calls 1190 true 1900 t109 t110 t111 _ A1.out).mono ?_); rintro e w13 ⟨rfl, hb⟩; refine ⟨_, rfl, ?_⟩; have n0_ := Aside0.mk (below_step (by repeat (first | (with_reducible first | exact HB.out | apply below_alloc | apply pw_below_drewN | apply below_drew1) | exact HB.out)) hb); clear HB; have HB := n0_; clear n0_; (try clear hb); (try clear hb2); (try clear hk); (try clear hi)) | ((with_reducible refine gate_callee (f := 11) rfl ?_); refine goesL_ (some 12) rfl rfl Try.func11 (by kernel_rfl) rfl #[.int .i64 190, .int .i64 33, .bool true] rfl (by (try simp only [List.map_toArray, List.map_cons, List.map_nil]); first | done | rfl | (simp only [List.length_drop, List.length_take]; rfl)) ?_; (with_reducible refine (tax_Deduct.calls k 190 33 true t112 t113 _ A2.out).mono ?_); rintro e w14 ⟨rfl, hb⟩; refine ⟨_, rfl, ?_⟩; have n0_ := Aside0.mk (below_step (by repeat (first | (with_reducible first | exact HB.out | apply below_alloc | apply pw_below_drewN | apply below_drew1) | exact HB.out)) hb); clear HB; have HB := n0_; clear n0_; (try clear hb); (try clear hb2); (try clear hk); (try clear hi)))
      go_ret
      exact ⟨by first | rfl | (simp [errW_none, errW_some] <;> rfl) | (simp [*, errW_none, errW_some] <;> rfl), by repeat (first | (with_reducible first | exact HB.out | apply below_alloc | apply pw_below_drewN | apply below_drew1) | exact HB.out)⟩
  · rw [if_neg c3] at H
    have c3b0 : (t109 == 1000) = false := beq_eq_false_iff_ne.mpr c3
    have c3b1 : (t109 != 1000) = true := bne_iff_ne.mpr c3
    obtain rfl := Option.some.inj H
    go_enter Try.func7, Try.ntmps7
    go_wp2_with (first | ((with_reducible refine gate_callee (f := 8) rfl ?_); refine goesL_ (some 7) rfl rfl Try.func8 (by kernel_rfl) rfl #[.int .i64 1190, .bool true, .int .i64 1900] rfl (by (try simp only [List.map_toArray, List.map_cons, List.map_nil]); first | done | rfl | (simp only [List.length_drop, List.length_take]; rfl)) ?_; (with_reducible refine (tax_Part.calls 1190 true 1900 t109 t110 t111 _ A1.out).mono ?_); rintro e w15 ⟨rfl, hb⟩; refine ⟨_, rfl, ?_⟩; have n0_ := Aside0.mk (below_step (by repeat (first | (with_reducible first | exact HB.out | apply below_alloc | apply pw_below_drewN | apply below_drew1) | exact HB.out)) hb); clear HB; have HB := n0_; clear n0_; (try clear hb); (try clear hb2); (try clear hk); (try clear hi)) | ((with_reducible refine gate_callee (f := 11) rfl ?_); refine goesL_ (some 12) rfl rfl Try.func11 (by kernel_rfl) rfl #[.int .i64 190, .int .i64 33, .bool true] rfl (by (try simp only [List.map_toArray, List.map_cons, List.map_nil]); first | done | rfl | (simp only [List.length_drop, List.length_take]; rfl)) ?_; (with_reducible refine (tax_Deduct.calls k 190 33 true t112 t113 _ A2.out).mono ?_); rintro e w16 ⟨rfl, hb⟩; refine ⟨_, rfl, ?_⟩; have n0_ := Aside0.mk (below_step (by repeat (first | (with_reducible first | exact HB.out | apply below_alloc | apply pw_below_drewN | apply below_drew1) | exact HB.out)) hb); clear HB; have HB := n0_; clear n0_; (try clear hb); (try clear hb2); (try clear hk); (try clear hi)))
    go_ret
    exact ⟨by first | rfl | (simp [errW_none, errW_some] <;> rfl) | (simp [*, errW_none, errW_some] <;> rfl), by repeat (first | (with_reducible first | exact HB.out | apply below_alloc | apply pw_below_drewN | apply below_drew1) | exact HB.out)⟩

/-! ### octroilaw21_TaxWhole: function 3 -/
mutual
def octroilaw21_TaxWhole.j0 : Nat → Int → Bool → Int → Bool → Option (Bool)
  | 0, _, _, _, _ => none
  | k + 1, x0, x1, x2, x21 => if x21 = true then ((octroilaw21_lives.f k).bind fun t114 => (some t114)) else ((tax_Part.f x0 x1 x2).bind fun bt115 => ((tax_Part.f (wrap64 (-x0)) x1 x2).bind fun bt118 => (if bt115.2.2 = bt118.2.2 then (if bt118.1 = (wrap64 (-bt115.1)) then (octroilaw21_TaxWhole.j1 k x0 x1 bt115.1 bt115.2.1 bt115.2.2 (bt118.2.1 != (wrap64 (-bt115.2.1)))) else (octroilaw21_TaxWhole.j1 k x0 x1 bt115.1 bt115.2.1 bt115.2.2 true)) else (octroilaw21_TaxWhole.j1 k x0 x1 bt115.1 bt115.2.1 bt115.2.2 true))))
def octroilaw21_TaxWhole.j1 : Nat → Int → Bool → Int → Int → Int → Bool → Option (Bool)
  | 0, _, _, _, _, _, _ => none
  | k + 1, x0, x1, x7, x8, x9, x54 => if x54 = true then (none) else (if x9 = 0 then ((tax_Part.f x0 x1 0).bind fun bt121 => (if x1 = true then (if (wrap64 (x7 + x8)) = x0 then (if bt121.1 = x0 then (if bt121.2.1 = 0 then (if bt121.2.2 = 0 then ((octroilaw21_lives.f k).bind fun t124 => (some t124)) else (none)) else (none)) else (none)) else (none)) else (if x7 = x0 then (if bt121.1 = x0 then (if bt121.2.1 = 0 then (if bt121.2.2 = 0 then ((octroilaw21_lives.f k).bind fun t125 => (some t125)) else (none)) else (none)) else (none)) else (none)))) else ((octroilaw21_lives.f k).bind fun t126 => (some t126)))
end
def octroilaw21_TaxWhole.f (k : Nat) (a0 : Int) (a1 : Bool) (a2 : Int) : Option (Bool) := if a0 < (-4611686018427387904) then (octroilaw21_TaxWhole.j0 k a0 a1 a2 true) else (octroilaw21_TaxWhole.j0 k a0 a1 a2 (decide (a0 > 4611686018427387904)))
theorem octroilaw21_TaxWhole.mono_l : ∀ k, (∀ y0 y1 y2 y3, LeO (octroilaw21_TaxWhole.j0 k y0 y1 y2 y3) (octroilaw21_TaxWhole.j0 (k + 1) y0 y1 y2 y3)) ∧ (∀ y0 y1 y2 y3 y4 y5, LeO (octroilaw21_TaxWhole.j1 k y0 y1 y2 y3 y4 y5) (octroilaw21_TaxWhole.j1 (k + 1) y0 y1 y2 y3 y4 y5))
  | 0 => ⟨fun _ _ _ _ r h => by simp [octroilaw21_TaxWhole.j0] at h, fun _ _ _ _ _ _ r h => by simp [octroilaw21_TaxWhole.j1] at h⟩
  | k + 1 => by
    obtain ⟨ih0, ih1⟩ := octroilaw21_TaxWhole.mono_l k
    refine ⟨?_, ?_⟩
    · intro y0 y1 y2 y3
      unfold octroilaw21_TaxWhole.j0
      repeat' first
      | (with_reducible exact ih0 _ _ _ _)
      | (with_reducible exact ih1 _ _ _ _ _ _)
      | (with_reducible exact octroilaw21_lives.mono _)
      | (with_reducible exact LeO.refl _)
      | (with_reducible exact LeO.none _)
      | (with_reducible refine LeO.ite ?_ ?_)
      | (with_reducible refine LeO.bind ?_ (fun _ => ?_))
      | exact ih0 _ _ _ _
      | exact ih1 _ _ _ _ _ _
      | exact octroilaw21_lives.mono _
      | exact LeO.none _
      | refine LeO.ite ?_ ?_
      | refine LeO.bind ?_ (fun _ => ?_)
    · intro y0 y1 y2 y3 y4 y5
      unfold octroilaw21_TaxWhole.j1
      repeat' first
      | (with_reducible exact ih0 _ _ _ _)
      | (with_reducible exact ih1 _ _ _ _ _ _)
      | (with_reducible exact octroilaw21_lives.mono _)
      | (with_reducible exact LeO.refl _)
      | (with_reducible exact LeO.none _)
      | (with_reducible refine LeO.ite ?_ ?_)
      | (with_reducible refine LeO.bind ?_ (fun _ => ?_))
      | exact ih0 _ _ _ _
      | exact ih1 _ _ _ _ _ _
      | exact octroilaw21_lives.mono _
      | exact LeO.none _
      | refine LeO.ite ?_ ?_
      | refine LeO.bind ?_ (fun _ => ?_)
theorem octroilaw21_TaxWhole.mono : ∀ a0 a1 a2 k, LeO (octroilaw21_TaxWhole.f k a0 a1 a2) (octroilaw21_TaxWhole.f (k + 1) a0 a1 a2) := by
  intro a0 a1 a2 k
  obtain ⟨ih0, ih1⟩ := octroilaw21_TaxWhole.mono_l k
  unfold octroilaw21_TaxWhole.f
  repeat' first
      | (with_reducible exact ih0 _ _ _ _)
      | (with_reducible exact ih1 _ _ _ _ _ _)
      | (with_reducible exact octroilaw21_lives.mono _)
      | (with_reducible exact LeO.refl _)
      | (with_reducible exact LeO.none _)
      | (with_reducible refine LeO.ite ?_ ?_)
      | (with_reducible refine LeO.bind ?_ (fun _ => ?_))
      | exact ih0 _ _ _ _
      | exact ih1 _ _ _ _ _ _
      | exact octroilaw21_lives.mono _
      | exact LeO.none _
      | refine LeO.ite ?_ ?_
      | refine LeO.bind ?_ (fun _ => ?_)
set_option maxHeartbeats 8000000 in
set_option maxRecDepth 100000 in
theorem octroilaw21_TaxWhole.calls (k : Nat) (a0 : Int) (a1 : Bool) (a2 : Int) (r : Bool) (w : World) (h : octroilaw21_TaxWhole.f k a0 a1 a2 = some r) :
    Calls Try.prog 3 #[.int .i64 a0, .bool a1, .int .i64 a2] w fun e w' => e = .returned (.bool r) ∧ Below w.heap.size w w' := by
  have HB := Aside0.mk (Below.refl w.heap.size w)
  have H : (if a0 < (-4611686018427387904) then (octroilaw21_TaxWhole.j0 k a0 a1 a2 true) else (octroilaw21_TaxWhole.j0 k a0 a1 a2 (decide (a0 > 4611686018427387904)))) = some r := h
  clear h
  have HC4 := Aside0.mk H
  clear H
  go_enter Try.func3, Try.ntmps3
  go_upto_region 1 with (fail)
  go_cut [21] (fun v21 wc => ∃ (kq : Nat) (x21_3 : Bool), v21 = .bool x21_3 ∧ Aside0 (octroilaw21_TaxWhole.j0 kq a0 a1 a2 x21_3 = some r) ∧ Aside0 (kq ≤ k) ∧ Aside0 (Below w.heap.size w wc))
  case first =>
    have H := HC4.out
    clear HC4
    by_cases c5 : a0 < (-4611686018427387904)
    · rw [if_pos c5] at H
      have c5b0 : decide (a0 < (-4611686018427387904)) = true := decide_eq_true c5
      clear c5
      (first | rw [c5b0] | (simp only [i64_w, i32_w]; rw [c5b0]) | skip)
      have H' := Aside0.mk H
      clear H
      go_wp2
      go_meet
      case rel => exact ⟨_, (true), (by first | rfl | (simp; done) | (simp [*]; done)), H', ⟨by first | omega | exact Nat.le_refl _⟩, ⟨by repeat (first | (with_reducible first | exact HB.out | apply below_alloc | apply pw_below_drewN | apply below_drew1) | exact HB.out)⟩⟩
    · rw [if_neg c5] at H
      have c5b0 : decide (a0 < (-4611686018427387904)) = false := decide_eq_false c5
      clear c5
      (first | rw [c5b0] | (simp only [i64_w, i32_w]; rw [c5b0]) | skip)
      have H' := Aside0.mk H
      clear H
      go_wp2
      go_meet
      case rel => exact ⟨_, (decide (a0 > 4611686018427387904)), (by first | rfl | (simp; done) | (simp [*]; done)), H', ⟨by first | omega | exact Nat.le_refl _⟩, ⟨by repeat (first | (with_reducible first | exact HB.out | apply below_alloc | apply pw_below_drewN | apply below_drew1) | exact HB.out)⟩⟩
  case rest =>
    clear HC4
    try clear p2
    try clear c3
    try clear c5
    try clear c5b0
    obtain ⟨kq, x21_3, rfl, HA, HJ3, HB⟩ := hcut
    cases kq with
    | zero => exact absurd HA.out (by simp [octroilaw21_TaxWhole.j0])
    | succ kj3 =>
      have H := HA.out
      clear HA
      simp only [octroilaw21_TaxWhole.j0] at H
      by_cases c6 : x21_3 = true
      · subst c6
        have H1 : ((octroilaw21_lives.f kj3).bind fun t114 => (some t114)) = some r := by rw [if_pos rfl] at H; exact H
        clear H
        have H := H1
        clear H1
        replace H := Option.bind_eq_some_iff.mp H
        obtain ⟨t114, A70, H⟩ := H
        replace H : (some t114) = some r := H
        have A7 := Aside0.mk A70
        clear A70
        obtain rfl := Option.some.inj H
        go_wp2_with (first | ((with_reducible refine gate_callee (f := 7) rfl ?_); refine goesL_ (some 22) rfl rfl Try.func7 (by kernel_rfl) rfl #[] rfl (by (try simp only [List.map_toArray, List.map_cons, List.map_nil]); first | done | rfl | (simp only [List.length_drop, List.length_take]; rfl)) ?_; (with_reducible refine (octroilaw21_lives.calls kj3  t114 _ A7.out).mono ?_); rintro e w8 ⟨rfl, hb⟩; refine ⟨_, rfl, ?_⟩; have n0_ := Aside0.mk (below_step (by repeat (first | (with_reducible first | exact HB.out | apply below_alloc | apply pw_below_drewN | apply below_drew1) | exact HB.out)) hb); clear HB; have HB := n0_; clear n0_; (try clear hb); (try clear hb2); (try clear hk); (try clear hi)))
        go_ret
        exact ⟨by first | rfl | (simp [errW_none, errW_some] <;> rfl) | (simp [*, errW_none, errW_some] <;> rfl), by repeat (first | (with_reducible first | exact HB.out | apply below_alloc | apply pw_below_drewN | apply below_drew1) | exact HB.out)⟩
      · replace c6 := Bool.eq_false_iff.mpr c6
        subst c6
        have H1 : ((tax_Part.f a0 a1 a2).bind fun bt115 => ((tax_Part.f (wrap64 (-a0)) a1 a2).bind fun bt118 => (if bt115.2.2 = bt118.2.2 then (if bt118.1 = (wrap64 (-bt115.1)) then (octroilaw21_TaxWhole.j1 kj3 a0 a1 bt115.1 bt115.2.1 bt115.2.2 (bt118.2.1 != (wrap64 (-bt115.2.1)))) else (octroilaw21_TaxWhole.j1 kj3 a0 a1 bt115.1 bt115.2.1 bt115.2.2 true)) else (octroilaw21_TaxWhole.j1 kj3 a0 a1 bt115.1 bt115.2.1 bt115.2.2 true)))) = some r := by rw [if_neg (show ¬ (false = true) by decide)] at H; exact H
        clear H
        have H := H1
        clear H1
        replace H := Option.bind_eq_some_iff.mp H
        obtain ⟨⟨t115, t116, t117⟩, A90, H⟩ := H
        replace H : ((tax_Part.f (wrap64 (-a0)) a1 a2).bind fun bt118 => (if t117 = bt118.2.2 then (if bt118.1 = (wrap64 (-t115)) then (octroilaw21_TaxWhole.j1 kj3 a0 a1 t115 t116 t117 (bt118.2.1 != (wrap64 (-t116)))) else (octroilaw21_TaxWhole.j1 kj3 a0 a1 t115 t116 t117 true)) else (octroilaw21_TaxWhole.j1 kj3 a0 a1 t115 t116 t117 true))) = some r := H
        have A9 := Aside0.mk A90
        clear A90
        replace H := Option.bind_eq_some_iff.mp H
        obtain ⟨⟨t118, t119, t120⟩, A100, H⟩ := H
        replace H : (if t117 = t120 then (if t118 = (wrap64 (-t115)) then (octroilaw21_TaxWhole.j1 kj3 a0 a1 t115 t116 t117 (t119 != (wrap64 (-t116)))) else (octroilaw21_TaxWhole.j1 kj3 a0 a1 t115 t116 t117 true)) else (octroilaw21_TaxWhole.j1 kj3 a0 a1 t115 t116 t117 true)) = some r := H
        have A10 := Aside0.mk A100
        clear A100
        have HC11 := Aside0.mk H
        clear H
        go_upto_region 5 with (first | ((with_reducible refine gate_callee (f := 8) rfl ?_); refine goesL_ (some 27) rfl rfl Try.func8 (by kernel_rfl) rfl #[.int .i64 a0, .bool a1, .int .i64 a2] rfl (by (try simp only [List.map_toArray, List.map_cons, List.map_nil]); first | done | rfl | (simp only [List.length_drop, List.length_take]; rfl)) ?_; (with_reducible refine (tax_Part.calls a0 a1 a2 t115 t116 t117 _ A9.out).mono ?_); rintro e w12 ⟨rfl, hb⟩; refine ⟨_, rfl, ?_⟩; have n0_ := Aside0.mk (below_step (by repeat (first | (with_reducible first | exact HB.out | apply below_alloc | apply pw_below_drewN | apply below_drew1) | exact HB.out)) hb); clear HB; have HB := n0_; clear n0_; (try clear hb); (try clear hb2); (try clear hk); (try clear hi)) | ((with_reducible refine gate_callee (f := 8) rfl ?_); refine goesL_ (some 36) rfl rfl Try.func8 (by kernel_rfl) rfl #[.int .i64 (wrap64 (-a0)), .bool a1, .int .i64 a2] rfl (by (try simp only [List.map_toArray, List.map_cons, List.map_nil]); first | done | rfl | (simp only [List.length_drop, List.length_take]; rfl)) ?_; (with_reducible refine (tax_Part.calls (wrap64 (-a0)) a1 a2 t118 t119 t120 _ A10.out).mono ?_); rintro e w13 ⟨rfl, hb⟩; refine ⟨_, rfl, ?_⟩; have n0_ := Aside0.mk (below_step (by repeat (first | (with_reducible first | exact HB.out | apply below_alloc | apply pw_below_drewN | apply below_drew1) | exact HB.out)) hb); clear HB; have HB := n0_; clear n0_; (try clear hb); (try clear hb2); (try clear hk); (try clear hi)))
        (try simp only [Act.put, List.setIfInBounds_toArray, List.set_cons_zero, List.set_cons_succ])
        go_cut [54] (fun v54 wc => ∃ (kq : Nat) (x54_10 : Bool), v54 = .bool x54_10 ∧ Aside0 (octroilaw21_TaxWhole.j1 kq a0 a1 t115 t116 t117 x54_10 = some r) ∧ Aside0 (kq ≤ kj3) ∧ Aside0 (Below w.heap.size w wc))
        case first =>
          have H := HC11.out
          clear HC11
          by_cases c14 : t117 = t120
          · rw [if_pos c14] at H
            have c14b0 : (t117 == t120) = true := beq_iff_eq.mpr c14
            have c14b1 : (t117 != t120) = false := bne_eq_false_iff_eq.mpr c14
            clear c14
            (first | rw [c14b0] | (simp only [i64_w, i32_w]; rw [c14b0]) | skip)
            by_cases c15 : t118 = (wrap64 (-t115))
            · rw [if_pos c15] at H
              have c15b0 : (t118 == (wrap64 (-t115))) = true := beq_iff_eq.mpr c15
              have c15b1 : (t118 != (wrap64 (-t115))) = false := bne_eq_false_iff_eq.mpr c15
              clear c15
              have H' := Aside0.mk H
              clear H
              go_wp2
              go_meet
              case rel => exact ⟨_, ((t119 != (wrap64 (-t116)))), (by first | rfl | (simp; done) | (simp [*]; done)), H', ⟨by have := HJ3.out; first | omega | exact Nat.le_refl _⟩, ⟨by repeat (first | (with_reducible first | exact HB.out | apply below_alloc | apply pw_below_drewN | apply below_drew1) | exact HB.out)⟩⟩
            · rw [if_neg c15] at H
              have c15b0 : (t118 == (wrap64 (-t115))) = false := beq_eq_false_iff_ne.mpr c15
              have c15b1 : (t118 != (wrap64 (-t115))) = true := bne_iff_ne.mpr c15
              have H' := Aside0.mk H
              clear H
              go_wp2
              go_meet
              case rel => exact ⟨_, (true), (by first | rfl | (simp; done) | (simp [*]; done)), H', ⟨by have := HJ3.out; first | omega | exact Nat.le_refl _⟩, ⟨by repeat (first | (with_reducible first | exact HB.out | apply below_alloc | apply pw_below_drewN | apply below_drew1) | exact HB.out)⟩⟩
          · rw [if_neg c14] at H
            have c14b0 : (t117 == t120) = false := beq_eq_false_iff_ne.mpr c14
            have c14b1 : (t117 != t120) = true := bne_iff_ne.mpr c14
            (first | rw [c14b0] | (simp only [i64_w, i32_w]; rw [c14b0]) | skip)
            have H' := Aside0.mk H
            clear H
            go_wp2
            go_meet
            case rel => exact ⟨_, (true), (by first | rfl | (simp; done) | (simp [*]; done)), H', ⟨by have := HJ3.out; first | omega | exact Nat.le_refl _⟩, ⟨by repeat (first | (with_reducible first | exact HB.out | apply below_alloc | apply pw_below_drewN | apply below_drew1) | exact HB.out)⟩⟩
        case rest =>
          clear HC11
          try clear c1
          try clear p2
          try clear c3
          try clear c5
          try clear c5b0
          try clear c6
          try clear p6
          try clear c7
          try clear c8
          try clear c14
          try clear c14b0
          try clear c14b1
          try clear c15
          try clear c15b0
          try clear c15b1
          try clear p2
          obtain ⟨kq, x54_10, rfl, HA, HJ10, HB⟩ := hcut
          cases kq with
          | zero => exact absurd HA.out (by simp [octroilaw21_TaxWhole.j1])
          | succ kj10 =>
            have H := HA.out
            clear HA
            simp only [octroilaw21_TaxWhole.j1] at H
            by_cases c16 : x54_10 = true
            · subst c16
              have H1 : (none) = some r := by rw [if_pos rfl] at H; exact H
              clear H
              have H := H1
              clear H1
              exact absurd H (by simp)
            · replace c16 := Bool.eq_false_iff.mpr c16
              subst c16
              have H1 : (if t117 = 0 then ((tax_Part.f a0 a1 0).bind fun bt121 => (if a1 = true then (if (wrap64 (t115 + t116)) = a0 then (if bt121.1 = a0 then (if bt121.2.1 = 0 then (if bt121.2.2 = 0 then ((octroilaw21_lives.f kj10).bind fun t124 => (some t124)) else (none)) else (none)) else (none)) else (none)) else (if t115 = a0 then (if bt121.1 = a0 then (if bt121.2.1 = 0 then (if bt121.2.2 = 0 then ((octroilaw21_lives.f kj10).bind fun t125 => (some t125)) else (none)) else (none)) else (none)) else (none)))) else ((octroilaw21_lives.f kj10).bind fun t126 => (some t126))) = some r := by rw [if_neg (show ¬ (false = true) by decide)] at H; exact H
              clear H
              have H := H1
              clear H1
              by_cases c17 : t117 = 0
              · rw [if_pos c17] at H
                have c17b0 : (t117 == 0) = true := beq_iff_eq.mpr c17
                have c17b1 : (t117 != 0) = false := bne_eq_false_iff_eq.mpr c17
                clear c17
                replace H := Option.bind_eq_some_iff.mp H
                obtain ⟨⟨t121, t122, t123⟩, A180, H⟩ := H
                replace H : (if a1 = true then (if (wrap64 (t115 + t116)) = a0 then (if t121 = a0 then (if t122 = 0 then (if t123 = 0 then ((octroilaw21_lives.f kj10).bind fun t124 => (some t124)) else (none)) else (none)) else (none)) else (none)) else (if t115 = a0 then (if t121 = a0 then (if t122 = 0 then (if t123 = 0 then ((octroilaw21_lives.f kj10).bind fun t125 => (some t125)) else (none)) else (none)) else (none)) else (none))) = some r := H
                have A18 := Aside0.mk A180
                clear A180
                by_cases c19 : a1 = true
                · subst c19
                  have H1 : (if (wrap64 (t115 + t116)) = a0 then (if t121 = a0 then (if t122 = 0 then (if t123 = 0 then ((octroilaw21_lives.f kj10).bind fun t124 => (some t124)) else (none)) else (none)) else (none)) else (none)) = some r := by rw [if_pos rfl] at H; exact H
                  clear H
                  have H := H1
                  clear H1
                  by_cases c20 : (wrap64 (t115 + t116)) = a0
                  · rw [if_pos c20] at H
                    have c20b0 : ((wrap64 (t115 + t116)) == a0) = true := beq_iff_eq.mpr c20
                    have c20b1 : ((wrap64 (t115 + t116)) != a0) = false := bne_eq_false_iff_eq.mpr c20
                    clear c20
                    by_cases c21 : t121 = a0
                    · rw [if_pos c21] at H
                      have c21b0 : (t121 == a0) = true := beq_iff_eq.mpr c21
                      have c21b1 : (t121 != a0) = false := bne_eq_false_iff_eq.mpr c21
                      clear c21
                      by_cases c22 : t122 = 0
                      · rw [if_pos c22] at H
                        have c22b0 : (t122 == 0) = true := beq_iff_eq.mpr c22
                        have c22b1 : (t122 != 0) = false := bne_eq_false_iff_eq.mpr c22
                        clear c22
                        by_cases c23 : t123 = 0
                        · rw [if_pos c23] at H
                          have c23b0 : (t123 == 0) = true := beq_iff_eq.mpr c23
                          have c23b1 : (t123 != 0) = false := bne_eq_false_iff_eq.mpr c23
                          clear c23
                          replace H := Option.bind_eq_some_iff.mp H
                          obtain ⟨t124, A240, H⟩ := H
                          replace H : (some t124) = some r := H
                          have A24 := Aside0.mk A240
                          clear A240
                          obtain rfl := Option.some.inj H
                          go_wp2_with (first | ((with_reducible refine gate_callee (f := 8) rfl ?_); refine goesL_ (some 61) rfl rfl Try.func8 (by kernel_rfl) rfl #[.int .i64 a0, .bool true, .int .i64 0] rfl (by (try simp only [List.map_toArray, List.map_cons, List.map_nil]); first | done | rfl | (simp only [List.length_drop, List.length_take]; rfl)) ?_; (with_reducible refine (tax_Part.calls a0 true 0 t121 t122 t123 _ A18.out).mono ?_); rintro e w25 ⟨rfl, hb⟩; refine ⟨_, rfl, ?_⟩; have n0_ := Aside0.mk (below_step (by repeat (first | (with_reducible first | exact HB.out | apply below_alloc | apply pw_below_drewN | apply below_drew1) | exact HB.out)) hb); clear HB; have HB := n0_; clear n0_; (try clear hb); (try clear hb2); (try clear hk); (try clear hi)) | (go_at_call 7; (with_reducible refine (octroilaw21_lives.calls kj10  t124 _ A24.out).mono ?_); rintro e w26 ⟨rfl, hb⟩; have n0_ := Aside0.mk (below_step (by repeat (first | (with_reducible first | exact HB.out | apply below_alloc | apply pw_below_drewN | apply below_drew1) | exact HB.out)) hb); clear HB; have HB := n0_; clear n0_; (try clear hb); (try clear hb2); (try clear hk); (try clear hi)))
                          go_ret
                          exact ⟨by first | rfl | (simp [errW_none, errW_some] <;> rfl) | (simp [*, errW_none, errW_some] <;> rfl), by repeat (first | (with_reducible first | exact HB.out | apply below_alloc | apply pw_below_drewN | apply below_drew1) | exact HB.out)⟩
                        · rw [if_neg c23] at H
                          exact absurd H (by simp)
                      · rw [if_neg c22] at H
                        exact absurd H (by simp)
                    · rw [if_neg c21] at H
                      exact absurd H (by simp)
                  · rw [if_neg c20] at H
                    exact absurd H (by simp)
                · replace c19 := Bool.eq_false_iff.mpr c19
                  subst c19
                  have H1 : (if t115 = a0 then (if t121 = a0 then (if t122 = 0 then (if t123 = 0 then ((octroilaw21_lives.f kj10).bind fun t125 => (some t125)) else (none)) else (none)) else (none)) else (none)) = some r := by rw [if_neg (show ¬ (false = true) by decide)] at H; exact H
                  clear H
                  have H := H1
                  clear H1
                  by_cases c27 : t115 = a0
                  · rw [if_pos c27] at H
                    have c27b0 : (t115 == a0) = true := beq_iff_eq.mpr c27
                    have c27b1 : (t115 != a0) = false := bne_eq_false_iff_eq.mpr c27
                    clear c27
                    by_cases c28 : t121 = a0
                    · rw [if_pos c28] at H
                      have c28b0 : (t121 == a0) = true := beq_iff_eq.mpr c28
                      have c28b1 : (t121 != a0) = false := bne_eq_false_iff_eq.mpr c28
                      clear c28
                      by_cases c29 : t122 = 0
                      · rw [if_pos c29] at H
                        have c29b0 : (t122 == 0) = true := beq_iff_eq.mpr c29
                        have c29b1 : (t122 != 0) = false := bne_eq_false_iff_eq.mpr c29
                        clear c29
                        by_cases c30 : t123 = 0
                        · rw [if_pos c30] at H
                          have c30b0 : (t123 == 0) = true := beq_iff_eq.mpr c30
                          have c30b1 : (t123 != 0) = false := bne_eq_false_iff_eq.mpr c30
                          clear c30
                          replace H := Option.bind_eq_some_iff.mp H
                          obtain ⟨t125, A310, H⟩ := H
                          replace H : (some t125) = some r := H
                          have A31 := Aside0.mk A310
                          clear A310
                          obtain rfl := Option.some.inj H
                          go_wp2_with (first | ((with_reducible refine gate_callee (f := 8) rfl ?_); refine goesL_ (some 61) rfl rfl Try.func8 (by kernel_rfl) rfl #[.int .i64 a0, .bool false, .int .i64 0] rfl (by (try simp only [List.map_toArray, List.map_cons, List.map_nil]); first | done | rfl | (simp only [List.length_drop, List.length_take]; rfl)) ?_; (with_reducible refine (tax_Part.calls a0 false 0 t121 t122 t123 _ A18.out).mono ?_); rintro e w32 ⟨rfl, hb⟩; refine ⟨_, rfl, ?_⟩; have n0_ := Aside0.mk (below_step (by repeat (first | (with_reducible first | exact HB.out | apply below_alloc | apply pw_below_drewN | apply below_drew1) | exact HB.out)) hb); clear HB; have HB := n0_; clear n0_; (try clear hb); (try clear hb2); (try clear hk); (try clear hi)) | (go_at_call 7; (with_reducible refine (octroilaw21_lives.calls kj10  t125 _ A31.out).mono ?_); rintro e w33 ⟨rfl, hb⟩; have n0_ := Aside0.mk (below_step (by repeat (first | (with_reducible first | exact HB.out | apply below_alloc | apply pw_below_drewN | apply below_drew1) | exact HB.out)) hb); clear HB; have HB := n0_; clear n0_; (try clear hb); (try clear hb2); (try clear hk); (try clear hi)))
                          go_ret
                          exact ⟨by first | rfl | (simp [errW_none, errW_some] <;> rfl) | (simp [*, errW_none, errW_some] <;> rfl), by repeat (first | (with_reducible first | exact HB.out | apply below_alloc | apply pw_below_drewN | apply below_drew1) | exact HB.out)⟩
                        · rw [if_neg c30] at H
                          exact absurd H (by simp)
                      · rw [if_neg c29] at H
                        exact absurd H (by simp)
                    · rw [if_neg c28] at H
                      exact absurd H (by simp)
                  · rw [if_neg c27] at H
                    exact absurd H (by simp)
              · rw [if_neg c17] at H
                have c17b0 : (t117 == 0) = false := beq_eq_false_iff_ne.mpr c17
                have c17b1 : (t117 != 0) = true := bne_iff_ne.mpr c17
                replace H := Option.bind_eq_some_iff.mp H
                obtain ⟨t126, A340, H⟩ := H
                replace H : (some t126) = some r := H
                have A34 := Aside0.mk A340
                clear A340
                obtain rfl := Option.some.inj H
                go_wp2_with (first | ((with_reducible refine gate_callee (f := 7) rfl ?_); refine goesL_ (some 57) rfl rfl Try.func7 (by kernel_rfl) rfl #[] rfl (by (try simp only [List.map_toArray, List.map_cons, List.map_nil]); first | done | rfl | (simp only [List.length_drop, List.length_take]; rfl)) ?_; (with_reducible refine (octroilaw21_lives.calls kj10  t126 _ A34.out).mono ?_); rintro e w35 ⟨rfl, hb⟩; refine ⟨_, rfl, ?_⟩; have n0_ := Aside0.mk (below_step (by repeat (first | (with_reducible first | exact HB.out | apply below_alloc | apply pw_below_drewN | apply below_drew1) | exact HB.out)) hb); clear HB; have HB := n0_; clear n0_; (try clear hb); (try clear hb2); (try clear hk); (try clear hi)))
                go_ret
                exact ⟨by first | rfl | (simp [errW_none, errW_some] <;> rfl) | (simp [*, errW_none, errW_some] <;> rfl), by repeat (first | (with_reducible first | exact HB.out | apply below_alloc | apply pw_below_drewN | apply below_drew1) | exact HB.out)⟩

/-- THE ONE PURE STATEMENT of octroilaw21_TaxWhole: yours. -/
def octroilaw21_TaxWhole.Pure : Prop := ∀ (a0 : Int) (a1 : Bool) (a2 : Int), (Lit.int .i64 a0).wf = true → (Lit.int .i64 a2).wf = true → ∃ k, octroilaw21_TaxWhole.f k a0 a1 a2 = some true
theorem octroilaw21_TaxWhole.walk (P : octroilaw21_TaxWhole.Pure) (a0 : Int) (a1 : Bool) (a2 : Int) (w : World) (w0 : (Lit.int .i64 a0).wf = true) (w2 : (Lit.int .i64 a2).wf = true) :
    Calls Try.prog 3 #[.int .i64 a0, .bool a1, .int .i64 a2] w fun e w' => e = .returned (.bool true) ∧ Below w.heap.size w w' := by
  obtain ⟨k, h⟩ := P a0 a1 a2 w0 w2
  refine (octroilaw21_TaxWhole.calls k a0 a1 a2 true w h).mono ?_
  rintro e w' ⟨rfl, hd⟩
  exact ⟨rfl, hd⟩

/-! ### octroilaw21_TaxMore: function 4 -/
def octroilaw21_TaxMore.j0 : Nat → Int → Int → Bool → Int → Int → Bool → Option (Bool)
  | 0, _, _, _, _, _, _ => none
  | k + 1, x0, x1, x2, x3, x4, x51 => if x51 = true then ((octroilaw21_lives.f k).bind fun t127 => (some t127)) else ((tax_Part.f x0 x2 x3).bind fun bt128 => ((tax_Part.f (wrap64 (x0 + x1)) x2 x3).bind fun bt131 => ((tax_Part.f x0 x2 (wrap64 (x3 + x4))).bind fun bt134 => (if bt128.2.2 = 0 then (if bt131.2.2 = 0 then (if bt134.2.2 = 0 then (if bt128.2.1 ≤ bt131.2.1 then (if bt128.2.1 ≤ bt134.2.1 then ((octroilaw21_lives.f k).bind fun t137 => (some t137)) else (none)) else (none)) else (none)) else (none)) else (none)))))
def octroilaw21_TaxMore.f (k : Nat) (a0 : Int) (a1 : Int) (a2 : Bool) (a3 : Int) (a4 : Int) : Option (Bool) := if a0 < 0 then (octroilaw21_TaxMore.j0 k a0 a1 a2 a3 a4 true) else (if a1 < 0 then (octroilaw21_TaxMore.j0 k a0 a1 a2 a3 a4 true) else (if a0 > 1125899906842624 then (octroilaw21_TaxMore.j0 k a0 a1 a2 a3 a4 true) else (if a1 > 1125899906842624 then (octroilaw21_TaxMore.j0 k a0 a1 a2 a3 a4 true) else (if a3 < 0 then (octroilaw21_TaxMore.j0 k a0 a1 a2 a3 a4 true) else (if a4 < 0 then (octroilaw21_TaxMore.j0 k a0 a1 a2 a3 a4 true) else (if a3 > 10000 then (octroilaw21_TaxMore.j0 k a0 a1 a2 a3 a4 true) else (octroilaw21_TaxMore.j0 k a0 a1 a2 a3 a4 (decide (a4 > (wrap64 (10000 - a3)))))))))))
theorem octroilaw21_TaxMore.mono_l : ∀ k, (∀ y0 y1 y2 y3 y4 y5, LeO (octroilaw21_TaxMore.j0 k y0 y1 y2 y3 y4 y5) (octroilaw21_TaxMore.j0 (k + 1) y0 y1 y2 y3 y4 y5))
  | 0 => fun _ _ _ _ _ _ r h => by simp [octroilaw21_TaxMore.j0] at h
  | k + 1 => by
    have ih0 := octroilaw21_TaxMore.mono_l k
    · intro y0 y1 y2 y3 y4 y5
      unfold octroilaw21_TaxMore.j0
      repeat' first
      | (with_reducible exact ih0 _ _ _ _ _ _)
      | (with_reducible exact octroilaw21_lives.mono _)
      | (with_reducible exact LeO.refl _)
      | (with_reducible exact LeO.none _)
      | (with_reducible refine LeO.ite ?_ ?_)
      | (with_reducible refine LeO.bind ?_ (fun _ => ?_))
      | exact ih0 _ _ _ _ _ _
      | exact octroilaw21_lives.mono _
      | exact LeO.none _
      | refine LeO.ite ?_ ?_
      | refine LeO.bind ?_ (fun _ => ?_)
theorem octroilaw21_TaxMore.mono : ∀ a0 a1 a2 a3 a4 k, LeO (octroilaw21_TaxMore.f k a0 a1 a2 a3 a4) (octroilaw21_TaxMore.f (k + 1) a0 a1 a2 a3 a4) := by
  intro a0 a1 a2 a3 a4 k
  have ih0 := octroilaw21_TaxMore.mono_l k
  unfold octroilaw21_TaxMore.f
  repeat' first
      | (with_reducible exact ih0 _ _ _ _ _ _)
      | (with_reducible exact octroilaw21_lives.mono _)
      | (with_reducible exact LeO.refl _)
      | (with_reducible exact LeO.none _)
      | (with_reducible refine LeO.ite ?_ ?_)
      | (with_reducible refine LeO.bind ?_ (fun _ => ?_))
      | exact ih0 _ _ _ _ _ _
      | exact octroilaw21_lives.mono _
      | exact LeO.none _
      | refine LeO.ite ?_ ?_
      | refine LeO.bind ?_ (fun _ => ?_)
set_option maxHeartbeats 8000000 in
set_option maxRecDepth 100000 in
theorem octroilaw21_TaxMore.calls (k : Nat) (a0 : Int) (a1 : Int) (a2 : Bool) (a3 : Int) (a4 : Int) (r : Bool) (w : World) (h : octroilaw21_TaxMore.f k a0 a1 a2 a3 a4 = some r) :
    Calls Try.prog 4 #[.int .i64 a0, .int .i64 a1, .bool a2, .int .i64 a3, .int .i64 a4] w fun e w' => e = .returned (.bool r) ∧ Below w.heap.size w w' := by
  have HB := Aside0.mk (Below.refl w.heap.size w)
  have H : (if a0 < 0 then (octroilaw21_TaxMore.j0 k a0 a1 a2 a3 a4 true) else (if a1 < 0 then (octroilaw21_TaxMore.j0 k a0 a1 a2 a3 a4 true) else (if a0 > 1125899906842624 then (octroilaw21_TaxMore.j0 k a0 a1 a2 a3 a4 true) else (if a1 > 1125899906842624 then (octroilaw21_TaxMore.j0 k a0 a1 a2 a3 a4 true) else (if a3 < 0 then (octroilaw21_TaxMore.j0 k a0 a1 a2 a3 a4 true) else (if a4 < 0 then (octroilaw21_TaxMore.j0 k a0 a1 a2 a3 a4 true) else (if a3 > 10000 then (octroilaw21_TaxMore.j0 k a0 a1 a2 a3 a4 true) else (octroilaw21_TaxMore.j0 k a0 a1 a2 a3 a4 (decide (a4 > (wrap64 (10000 - a3)))))))))))) = some r := h
  clear h
  have HC6 := Aside0.mk H
  clear H
  go_enter Try.func4, Try.ntmps4
  go_upto_region 1 with (fail)
  go_cut [51] (fun v51 wc => ∃ (kq : Nat) (x51_5 : Bool), v51 = .bool x51_5 ∧ Aside0 (octroilaw21_TaxMore.j0 kq a0 a1 a2 a3 a4 x51_5 = some r) ∧ Aside0 (kq ≤ k) ∧ Aside0 (Below w.heap.size w wc))
  case first =>
    have H := HC6.out
    clear HC6
    by_cases c7 : a0 < 0
    · rw [if_pos c7] at H
      have c7b0 : decide (a0 < 0) = true := decide_eq_true c7
      clear c7
      (first | rw [c7b0] | (simp only [i64_w, i32_w]; rw [c7b0]) | skip)
      have H' := Aside0.mk H
      clear H
      go_wp2
      go_meet
      case rel => exact ⟨_, (true), (by first | rfl | (simp; done) | (simp [*]; done)), H', ⟨by first | omega | exact Nat.le_refl _⟩, ⟨by repeat (first | (with_reducible first | exact HB.out | apply below_alloc | apply pw_below_drewN | apply below_drew1) | exact HB.out)⟩⟩
    · rw [if_neg c7] at H
      have c7b0 : decide (a0 < 0) = false := decide_eq_false c7
      clear c7
      (first | rw [c7b0] | (simp only [i64_w, i32_w]; rw [c7b0]) | skip)
      by_cases c8 : a1 < 0
      · rw [if_pos c8] at H
        have c8b0 : decide (a1 < 0) = true := decide_eq_true c8
        clear c8
        have H' := Aside0.mk H
        clear H
        go_wp2
        go_meet
        case rel => exact ⟨_, (true), (by first | rfl | (simp; done) | (simp [*]; done)), H', ⟨by first | omega | exact Nat.le_refl _⟩, ⟨by repeat (first | (with_reducible first | exact HB.out | apply below_alloc | apply pw_below_drewN | apply below_drew1) | exact HB.out)⟩⟩
      · rw [if_neg c8] at H
        have c8b0 : decide (a1 < 0) = false := decide_eq_false c8
        clear c8
        by_cases c9 : a0 > 1125899906842624
        · rw [if_pos c9] at H
          have c9b0 : decide (1125899906842624 < a0) = true := decide_eq_true c9
          clear c9
          have H' := Aside0.mk H
          clear H
          go_wp2
          go_meet
          case rel => exact ⟨_, (true), (by first | rfl | (simp; done) | (simp [*]; done)), H', ⟨by first | omega | exact Nat.le_refl _⟩, ⟨by repeat (first | (with_reducible first | exact HB.out | apply below_alloc | apply pw_below_drewN | apply below_drew1) | exact HB.out)⟩⟩
        · rw [if_neg c9] at H
          have c9b0 : decide (1125899906842624 < a0) = false := decide_eq_false c9
          clear c9
          by_cases c10 : a1 > 1125899906842624
          · rw [if_pos c10] at H
            have c10b0 : decide (1125899906842624 < a1) = true := decide_eq_true c10
            clear c10
            have H' := Aside0.mk H
            clear H
            go_wp2
            go_meet
            case rel => exact ⟨_, (true), (by first | rfl | (simp; done) | (simp [*]; done)), H', ⟨by first | omega | exact Nat.le_refl _⟩, ⟨by repeat (first | (with_reducible first | exact HB.out | apply below_alloc | apply pw_below_drewN | apply below_drew1) | exact HB.out)⟩⟩
          · rw [if_neg c10] at H
            have c10b0 : decide (1125899906842624 < a1) = false := decide_eq_false c10
            clear c10
            by_cases c11 : a3 < 0
            · rw [if_pos c11] at H
              have c11b0 : decide (a3 < 0) = true := decide_eq_true c11
              clear c11
              have H' := Aside0.mk H
              clear H
              go_wp2
              go_meet
              case rel => exact ⟨_, (true), (by first | rfl | (simp; done) | (simp [*]; done)), H', ⟨by first | omega | exact Nat.le_refl _⟩, ⟨by repeat (first | (with_reducible first | exact HB.out | apply below_alloc | apply pw_below_drewN | apply below_drew1) | exact HB.out)⟩⟩
            · rw [if_neg c11] at H
              have c11b0 : decide (a3 < 0) = false := decide_eq_false c11
              clear c11
              by_cases c12 : a4 < 0
              · rw [if_pos c12] at H
                have c12b0 : decide (a4 < 0) = true := decide_eq_true c12
                clear c12
                have H' := Aside0.mk H
                clear H
                go_wp2
                go_meet
                case rel => exact ⟨_, (true), (by first | rfl | (simp; done) | (simp [*]; done)), H', ⟨by first | omega | exact Nat.le_refl _⟩, ⟨by repeat (first | (with_reducible first | exact HB.out | apply below_alloc | apply pw_below_drewN | apply below_drew1) | exact HB.out)⟩⟩
              · rw [if_neg c12] at H
                have c12b0 : decide (a4 < 0) = false := decide_eq_false c12
                clear c12
                by_cases c13 : a3 > 10000
                · rw [if_pos c13] at H
                  have c13b0 : decide (10000 < a3) = true := decide_eq_true c13
                  clear c13
                  have H' := Aside0.mk H
                  clear H
                  go_wp2
                  go_meet
                  case rel => exact ⟨_, (true), (by first | rfl | (simp; done) | (simp [*]; done)), H', ⟨by first | omega | exact Nat.le_refl _⟩, ⟨by repeat (first | (with_reducible first | exact HB.out | apply below_alloc | apply pw_below_drewN | apply below_drew1) | exact HB.out)⟩⟩
                · rw [if_neg c13] at H
                  have c13b0 : decide (10000 < a3) = false := decide_eq_false c13
                  clear c13
                  have H' := Aside0.mk H
                  clear H
                  go_wp2
                  go_meet
                  case rel => exact ⟨_, (decide (a4 > (wrap64 (10000 - a3)))), (by first | rfl | (simp; done) | (simp [*]; done)), H', ⟨by first | omega | exact Nat.le_refl _⟩, ⟨by repeat (first | (with_reducible first | exact HB.out | apply below_alloc | apply pw_below_drewN | apply below_drew1) | exact HB.out)⟩⟩
  case rest =>
    clear HC6
    try clear c1
    try clear p2
    try clear c4
    try clear p6
    try clear c7
    try clear c7b0
    try clear c8
    try clear c8b0
    try clear c9
    try clear c9b0
    try clear c10
    try clear c10b0
    try clear c11
    try clear c11b0
    try clear c12
    try clear c12b0
    try clear c13
    try clear c13b0
    obtain ⟨kq, x51_5, rfl, HA, HJ5, HB⟩ := hcut
    cases kq with
    | zero => exact absurd HA.out (by simp [octroilaw21_TaxMore.j0])
    | succ kj5 =>
      have H := HA.out
      clear HA
      simp only [octroilaw21_TaxMore.j0] at H
      by_cases c14 : x51_5 = true
      · subst c14
        have H1 : ((octroilaw21_lives.f kj5).bind fun t127 => (some t127)) = some r := by rw [if_pos rfl] at H; exact H
        clear H
        have H := H1
        clear H1
        replace H := Option.bind_eq_some_iff.mp H
        obtain ⟨t127, A150, H⟩ := H
        replace H : (some t127) = some r := H
        have A15 := Aside0.mk A150
        clear A150
        obtain rfl := Option.some.inj H
        go_wp2_with (first | ((with_reducible refine gate_callee (f := 7) rfl ?_); refine goesL_ (some 52) rfl rfl Try.func7 (by kernel_rfl) rfl #[] rfl (by (try simp only [List.map_toArray, List.map_cons, List.map_nil]); first | done | rfl | (simp only [List.length_drop, List.length_take]; rfl)) ?_; (with_reducible refine (octroilaw21_lives.calls kj5  t127 _ A15.out).mono ?_); rintro e w16 ⟨rfl, hb⟩; refine ⟨_, rfl, ?_⟩; have n0_ := Aside0.mk (below_step (by repeat (first | (with_reducible first | exact HB.out | apply below_alloc | apply pw_below_drewN | apply below_drew1) | exact HB.out)) hb); clear HB; have HB := n0_; clear n0_; (try clear hb); (try clear hb2); (try clear hk); (try clear hi)))
        go_ret
        exact ⟨by first | rfl | (simp [errW_none, errW_some] <;> rfl) | (simp [*, errW_none, errW_some] <;> rfl), by repeat (first | (with_reducible first | exact HB.out | apply below_alloc | apply pw_below_drewN | apply below_drew1) | exact HB.out)⟩
      · replace c14 := Bool.eq_false_iff.mpr c14
        subst c14
        have H1 : ((tax_Part.f a0 a2 a3).bind fun bt128 => ((tax_Part.f (wrap64 (a0 + a1)) a2 a3).bind fun bt131 => ((tax_Part.f a0 a2 (wrap64 (a3 + a4))).bind fun bt134 => (if bt128.2.2 = 0 then (if bt131.2.2 = 0 then (if bt134.2.2 = 0 then (if bt128.2.1 ≤ bt131.2.1 then (if bt128.2.1 ≤ bt134.2.1 then ((octroilaw21_lives.f kj5).bind fun t137 => (some t137)) else (none)) else (none)) else (none)) else (none)) else (none))))) = some r := by rw [if_neg (show ¬ (false = true) by decide)] at H; exact H
        clear H
        have H := H1
        clear H1
        replace H := Option.bind_eq_some_iff.mp H
        obtain ⟨⟨t128, t129, t130⟩, A170, H⟩ := H
        replace H : ((tax_Part.f (wrap64 (a0 + a1)) a2 a3).bind fun bt131 => ((tax_Part.f a0 a2 (wrap64 (a3 + a4))).bind fun bt134 => (if t130 = 0 then (if bt131.2.2 = 0 then (if bt134.2.2 = 0 then (if t129 ≤ bt131.2.1 then (if t129 ≤ bt134.2.1 then ((octroilaw21_lives.f kj5).bind fun t137 => (some t137)) else (none)) else (none)) else (none)) else (none)) else (none)))) = some r := H
        have A17 := Aside0.mk A170
        clear A170
        replace H := Option.bind_eq_some_iff.mp H
        obtain ⟨⟨t131, t132, t133⟩, A180, H⟩ := H
        replace H : ((tax_Part.f a0 a2 (wrap64 (a3 + a4))).bind fun bt134 => (if t130 = 0 then (if t133 = 0 then (if bt134.2.2 = 0 then (if t129 ≤ t132 then (if t129 ≤ bt134.2.1 then ((octroilaw21_lives.f kj5).bind fun t137 => (some t137)) else (none)) else (none)) else (none)) else (none)) else (none))) = some r := H
        have A18 := Aside0.mk A180
        clear A180
        replace H := Option.bind_eq_some_iff.mp H
        obtain ⟨⟨t134, t135, t136⟩, A190, H⟩ := H
        replace H : (if t130 = 0 then (if t133 = 0 then (if t136 = 0 then (if t129 ≤ t132 then (if t129 ≤ t135 then ((octroilaw21_lives.f kj5).bind fun t137 => (some t137)) else (none)) else (none)) else (none)) else (none)) else (none)) = some r := H
        have A19 := Aside0.mk A190
        clear A190
        by_cases c20 : t130 = 0
        · rw [if_pos c20] at H
          have c20b0 : (t130 == 0) = true := beq_iff_eq.mpr c20
          have c20b1 : (t130 != 0) = false := bne_eq_false_iff_eq.mpr c20
          clear c20
          by_cases c21 : t133 = 0
          · rw [if_pos c21] at H
            have c21b0 : (t133 == 0) = true := beq_iff_eq.mpr c21
            have c21b1 : (t133 != 0) = false := bne_eq_false_iff_eq.mpr c21
            clear c21
            by_cases c22 : t136 = 0
            · rw [if_pos c22] at H
              have c22b0 : (t136 == 0) = true := beq_iff_eq.mpr c22
              have c22b1 : (t136 != 0) = false := bne_eq_false_iff_eq.mpr c22
              clear c22
              by_cases c23 : t129 ≤ t132
              · rw [if_pos c23] at H
                have c23b0 : decide (t129 ≤ t132) = true := decide_eq_true c23
                clear c23
                by_cases c24 : t129 ≤ t135
                · rw [if_pos c24] at H
                  have c24b0 : decide (t129 ≤ t135) = true := decide_eq_true c24
                  clear c24
                  replace H := Option.bind_eq_some_iff.mp H
                  obtain ⟨t137, A250, H⟩ := H
                  replace H : (some t137) = some r := H
                  have A25 := Aside0.mk A250
                  clear A250
                  obtain rfl := Option.some.inj H
                  go_wp2_with (first | ((with_reducible refine gate_callee (f := 8) rfl ?_); refine goesL_ (some 57) rfl rfl Try.func8 (by kernel_rfl) rfl #[.int .i64 a0, .bool a2, .int .i64 a3] rfl (by (try simp only [List.map_toArray, List.map_cons, List.map_nil]); first | done | rfl | (simp only [List.length_drop, List.length_take]; rfl)) ?_; (with_reducible refine (tax_Part.calls a0 a2 a3 t128 t129 t130 _ A17.out).mono ?_); rintro e w26 ⟨rfl, hb⟩; refine ⟨_, rfl, ?_⟩; have n0_ := Aside0.mk (below_step (by repeat (first | (with_reducible first | exact HB.out | apply below_alloc | apply pw_below_drewN | apply below_drew1) | exact HB.out)) hb); clear HB; have HB := n0_; clear n0_; (try clear hb); (try clear hb2); (try clear hk); (try clear hi)) | ((with_reducible refine gate_callee (f := 8) rfl ?_); refine goesL_ (some 67) rfl rfl Try.func8 (by kernel_rfl) rfl #[.int .i64 (wrap64 (a0 + a1)), .bool a2, .int .i64 a3] rfl (by (try simp only [List.map_toArray, List.map_cons, List.map_nil]); first | done | rfl | (simp only [List.length_drop, List.length_take]; rfl)) ?_; (with_reducible refine (tax_Part.calls (wrap64 (a0 + a1)) a2 a3 t131 t132 t133 _ A18.out).mono ?_); rintro e w27 ⟨rfl, hb⟩; refine ⟨_, rfl, ?_⟩; have n0_ := Aside0.mk (below_step (by repeat (first | (with_reducible first | exact HB.out | apply below_alloc | apply pw_below_drewN | apply below_drew1) | exact HB.out)) hb); clear HB; have HB := n0_; clear n0_; (try clear hb); (try clear hb2); (try clear hk); (try clear hi)) | ((with_reducible refine gate_callee (f := 8) rfl ?_); refine goesL_ (some 77) rfl rfl Try.func8 (by kernel_rfl) rfl #[.int .i64 a0, .bool a2, .int .i64 (wrap64 (a3 + a4))] rfl (by (try simp only [List.map_toArray, List.map_cons, List.map_nil]); first | done | rfl | (simp only [List.length_drop, List.length_take]; rfl)) ?_; (with_reducible refine (tax_Part.calls a0 a2 (wrap64 (a3 + a4)) t134 t135 t136 _ A19.out).mono ?_); rintro e w28 ⟨rfl, hb⟩; refine ⟨_, rfl, ?_⟩; have n0_ := Aside0.mk (below_step (by repeat (first | (with_reducible first | exact HB.out | apply below_alloc | apply pw_below_drewN | apply below_drew1) | exact HB.out)) hb); clear HB; have HB := n0_; clear n0_; (try clear hb); (try clear hb2); (try clear hk); (try clear hi)) | (go_at_call 7; (with_reducible refine (octroilaw21_lives.calls kj5  t137 _ A25.out).mono ?_); rintro e w29 ⟨rfl, hb⟩; have n0_ := Aside0.mk (below_step (by repeat (first | (with_reducible first | exact HB.out | apply below_alloc | apply pw_below_drewN | apply below_drew1) | exact HB.out)) hb); clear HB; have HB := n0_; clear n0_; (try clear hb); (try clear hb2); (try clear hk); (try clear hi)))
                  go_ret
                  exact ⟨by first | rfl | (simp [errW_none, errW_some] <;> rfl) | (simp [*, errW_none, errW_some] <;> rfl), by repeat (first | (with_reducible first | exact HB.out | apply below_alloc | apply pw_below_drewN | apply below_drew1) | exact HB.out)⟩
                · rw [if_neg c24] at H
                  exact absurd H (by simp)
              · rw [if_neg c23] at H
                exact absurd H (by simp)
            · rw [if_neg c22] at H
              exact absurd H (by simp)
          · rw [if_neg c21] at H
            exact absurd H (by simp)
        · rw [if_neg c20] at H
          exact absurd H (by simp)

/-- THE ONE PURE STATEMENT of octroilaw21_TaxMore: yours. -/
def octroilaw21_TaxMore.Pure : Prop := ∀ (a0 : Int) (a1 : Int) (a2 : Bool) (a3 : Int) (a4 : Int), (Lit.int .i64 a0).wf = true → (Lit.int .i64 a1).wf = true → (Lit.int .i64 a3).wf = true → (Lit.int .i64 a4).wf = true → ∃ k, octroilaw21_TaxMore.f k a0 a1 a2 a3 a4 = some true
theorem octroilaw21_TaxMore.walk (P : octroilaw21_TaxMore.Pure) (a0 : Int) (a1 : Int) (a2 : Bool) (a3 : Int) (a4 : Int) (w : World) (w0 : (Lit.int .i64 a0).wf = true) (w1 : (Lit.int .i64 a1).wf = true) (w3 : (Lit.int .i64 a3).wf = true) (w4 : (Lit.int .i64 a4).wf = true) :
    Calls Try.prog 4 #[.int .i64 a0, .int .i64 a1, .bool a2, .int .i64 a3, .int .i64 a4] w fun e w' => e = .returned (.bool true) ∧ Below w.heap.size w w' := by
  obtain ⟨k, h⟩ := P a0 a1 a2 a3 a4 w0 w1 w3 w4
  refine (octroilaw21_TaxMore.calls k a0 a1 a2 a3 a4 true w h).mono ?_
  rintro e w' ⟨rfl, hd⟩
  exact ⟨rfl, hd⟩

end Go.Proofs.Ytfmihohfkphamaa.Print
