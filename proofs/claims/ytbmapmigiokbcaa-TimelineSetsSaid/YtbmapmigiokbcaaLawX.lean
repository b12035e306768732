/- Laws as plain functions: of plain values, and of rows that came in. -/
import Derived.Test.YtbmapmigiokbcaaTlFind
import Derived.Test.YtbmapmigiokbcaaRoundQ
import Derived.Test.YtbmapmigiokbcaaX0
import Derived.Test.YtbmapmigiokbcaaX1
import Derived.Test.YtbmapmigiokbcaaAx14
import Derived.Test.YtbmapmigiokbcaaWWords
import Derived.Test.YtbmapmigiokbcaaAx21
import Derived.Test.YtbmapmigiokbcaaAx22
namespace Go.Proofs.Ytbmapmigiokbcaa.Print
open Go Go.RowKit Go.Shelf Go.Proofs.YtbmapmigiokbcaaW.PrintWords Go.Proofs.YtbmapmigiokbcaaW.PrintLast Go.Proofs.YtbmapmigiokbcaaW.PrintMore
set_option linter.unusedVariables false
set_option linter.unusedSimpArgs false
attribute [local go_sem] Oper.semAt_some
def tr27 (s : S27) : HV := (s.f0, s.f1, s.f2)
theorem rowAt_of_R {W : World} {base : Nat} {P : Nat → Prop} {v : Value} {ss : List S27} (h : Kd.R k27 27 W base P v ss) : RowAt W.heap.size W v (ss.map tr27) := by
  obtain ⟨A, c, rfl, hl, hC⟩ := Kd.R_reads h
  obtain ⟨inner, ho⟩ := Kd.R_own h
  rcases ho.2 with ⟨h1, h2⟩ | ⟨g, cap, cur, h1, h2, h3, _⟩
  · refine .inl ⟨?_, ?_⟩
    · rw [h1]
    · have : ss = [] := List.length_eq_zero_iff.1 h2
      rw [this]; rfl
  · refine .inr ⟨g, cap, by rw [h1, List.length_map], (Array.getElem?_eq_some_iff.1 h3).1, fun j hj => ?_⟩
    rw [List.length_map] at hj
    obtain ⟨ad, e, c0, c1, c2⟩ := at_T27 hC (j : Int) (by omega) (by omega)
    subst e
    have e : ad = ⟨g, 0, none⟩ := by cases h1; rfl
    subst e
    have hz : (ss.map tr27)[j]?.getD (0, 0, 0) = tr27 (rd_T27 ss (j : Int)) := by
      simp [rd_T27, hj, List.getD]
    rw [hz]
    rw [Addr.add_lit, Int.toNat_natCast, Nat.zero_add] at c0 c1 c2
    exact ⟨c0, c1, c2⟩
theorem rowAt_own (n₀ : Nat) (sv : Value) (zs : List HV) : Own (fun (_ : Unit) W => RowAt n₀ W sv zs) := by
  intro _ A B row h hg hr
  rcases h with h | ⟨b, cap, e, hb, hc⟩
  · exact .inl h
  · exact .inr ⟨b, cap, e, hb, fun j hj => ⟨cell_kept (hc j hj).1 hg hr, cell_kept (hc j hj).2.1 hg hr, cell_kept (hc j hj).2.2 hg hr⟩⟩
theorem keeps_drewN (W : World) (m : Nat) : KeepsOthers W (W.drewN m) := ⟨Nat.le_refl _, fun _ _ h _ => h⟩
theorem below_dN {n : Nat} {W W' : World} (h : Below n W W') (m : Nat) : Below n W (W'.drewN m) := pw_below_drewN h m
theorem bx_dN {W : World} {B : Nat} {cs : Array Value} {t : TypeId} (h : Bx W B cs t) (m : Nat) : Bx (W.drewN m) B cs t := h
theorem prefix_at {l m : List HV} {x z : HV} (h : (l ++ [x]) <+: m) (hz : m[l.length]? = some z) : z = x := by
  obtain ⟨t, rfl⟩ := h
  have e : ((l ++ [x]) ++ t)[l.length]? = some x := by rw [List.append_assoc, List.getElem?_append_right (Nat.le_refl _)]; simp
  rw [e] at hz
  exact (Option.some.inj hz).symm
theorem prefix_snoc {l m : List HV} {x : HV} (h : l <+: m) (hz : m[l.length]? = some x) : (l ++ [x]) <+: m := by
  obtain ⟨t, rfl⟩ := h
  rw [List.getElem?_append_right (Nat.le_refl _), Nat.sub_self] at hz
  cases t with
  | nil => simp at hz
  | cons y t => simp at hz; subst hz; exact ⟨t, by simp⟩
theorem RowAt.up {n m : Nat} {W : World} {sv : Value} {zs : List HV} (h : RowAt n W sv zs) (hm : n ≤ m) : RowAt m W sv zs := by
  rcases h with h | ⟨b, cap, e, hb, hc⟩
  · exact .inl h
  · exact .inr ⟨b, cap, e, Nat.lt_of_lt_of_le hb hm, hc⟩
theorem fn_nil (f : Fn) (fi ca : Array Value) (w : World) : (binOp BinOp.eql 60 (.func f fi ca) .nilFunc).run Try.prog w = .ok (.bool false) w := by
  have hu := Try.underlying60
  have gen : ∀ d, (Op.equalIn (d + 1) 60 (.func f fi ca) .nilFunc).run Try.prog w = .ok false w := by
    intro d
    simp only [Op.equalIn, Sem.run_bind, run_underlying hu, Result.andThen_ok, Sem.run_pure]
  have e1 : (Op.equal 60 (.func f fi ca) .nilFunc).run Try.prog w = .ok false w := gen 9999
  simp [binOp, Sem.run_bind, e1]
attribute [local go_sem] fn_nil
set_option maxRecDepth 100000 in
set_option maxHeartbeats 4000000 in
theorem like_in (T : Nat) (sv : Value) (most : Int) (hm : most ≠ 0) (zs : List HV) (hreach : zs.length ≤ 1000000000) (w : World) (hT : T < w.heap.size)
    (hl : w.cell? ⟨T, 0, none⟩ = some sv) (hmost : w.cell? ⟨T, 1, none⟩ = some (.int .i64 most)) (hI : RowAt w.heap.size w sv zs)
    (A0 : Option Addr) (c0 : Nat) (l0 : List S27) (hC : Kd.C k27 w A0 l0.length l0) (hc0 : l0.length ≤ c0) (day : Int) (k1 k2 : Nat) (ss : List S27) (hS : octroiref13_Sorted.f k1 l0 = some ss) (hss : ss.map tr27 = zs) (hA : octroiref13_At.f k2 l0 day = some (atV zs day)) :
    CallsIn Fence.wide 9 Try.prog 15 #[.pointer (some ⟨T, 0, none⟩), .slice A0 l0.length c0, .int .i64 day] w fun e W' => e = .returned (.bool true) ∧ Below w.heap.size w W' := by
  have hmix := mixed
  obtain ⟨y0, yb, hy⟩ : ∃ y0 yb, atV zs day = (y0, yb) := ⟨_, _, rfl⟩
  rw [hy] at hA
  have hat : ∀ (W : World), T < W.heap.size → W.cell? ⟨T, 0, none⟩ = some sv → W.cell? ⟨T, 1, none⟩ = some (.int .i64 most) → RowAt W.heap.size W sv zs →
      Calls Try.prog 12 #[.pointer (some ⟨T, 0, none⟩), .int .i64 day] W fun e w' => e = .returned (.tuple #[.int .i64 y0, .bool yb]) ∧ Below W.heap.size W w' := by
    intro W h1 h2 h3 h4
    have := at_line T sv most hm zs day hreach W h1 h2 h3 h4
    rwa [hy] at this
  refine callsIn_of_wp_marks Try.func15 rfl trivial ?_ rfl
  simp only [Try.ntmps15, List.size_toArray, List.length_cons, List.length_nil, Nat.reduceAdd, Nat.reduceSub, Array.replicate_succ, Array.replicate_zero, List.push_toArray, List.append_toArray, List.nil_append, List.cons_append]
  have bR1 := Bx.new w #[.bool false] 4
  have hB1 : Below w.heap.size w (w.alloc (.cells #[.bool false] 4)) := (Below.refl _ w).alloc (Nat.le_refl _) _
  have hC1 : Kd.C k27 (w.alloc (.cells #[.bool false] 4)) A0 l0.length l0 := Kd.C_alloc hC _
  gi_wp2_with (first | (refine ⟨trivial, ?_⟩; gi_at_call 25; refine (callsIn_wide.2 (octroiref13_Sorted.calls k1 A0 c0 l0 ss _ hC1 hc0 hS)).mono ?_; rintro e w2 ⟨v0, rfl, hR2, hb2⟩; obtain ⟨A2, c2, rfl⟩ := Kd.R_slice hR2) | (refine ⟨trivial, ?_⟩; gi_at_call 26; refine (callsIn_wide.2 (all_line _ _)).mono ?_; rintro e w4 ⟨rfl, hww⟩; rw [hww]; clear hww w4))
  have hz2 : w.heap.size + 1 ≤ w2.heap.size := by simpa using hb2.size
  have hB2 : Below w.heap.size w w2 := hB1.trans (hb2.mono (by simp))
  have hRow2 : RowAt w2.heap.size w2 (.slice A2 ss.length c2) zs := by have := rowAt_of_R hR2; rwa [hss] at this
  obtain ⟨W0, hW0⟩ : ∃ W0, ((w2.alloc (.cells #[.slice A2 ss.length c2] 41)).alloc (.cells #[.int .i64 0] 3)).alloc (.cells #[.pointer (some ⟨T, 0, none⟩)] 32) = W0 := ⟨_, rfl⟩
  have hz0 : W0.heap.size = w2.heap.size + 3 := by rw [← hW0]; simp
  have hBz : Below w2.heap.size w2 W0 := by rw [← hW0]; exact (((Below.refl _ w2).alloc (Nat.le_refl _) _).alloc (by simp) _).alloc (by simp; omega) _
  have hB0 : Below w.heap.size w W0 := hB2.trans (hBz.mono (by omega))
  have bS0 : Bx W0 w2.heap.size #[.slice A2 ss.length c2] 41 := by rw [← hW0]; exact ((Bx.new w2 _ _).alloc _).alloc _
  have bN0 : Bx W0 (w2.heap.size + 1) #[.int .i64 0] 3 := by
    rw [← hW0]
    have := Bx.new (w2.alloc (.cells #[.slice A2 ss.length c2] 41)) #[.int .i64 0] 3
    rw [World.size_alloc] at this
    exact this.alloc _
  have bL0 : Bx W0 (w2.heap.size + 1 + 1) #[.pointer (some ⟨T, 0, none⟩)] 32 := by
    rw [← hW0]
    have := Bx.new ((w2.alloc (.cells #[.slice A2 ss.length c2] 41)).alloc (.cells #[.int .i64 0] 3)) #[.pointer (some ⟨T, 0, none⟩)] 32
    rwa [World.size_alloc, World.size_alloc] at this
  have bR0 : Bx W0 w.heap.size #[.bool false] 4 := (bR1.below hb2 (by simp)).below hBz (by omega)
  have hRow0 : RowAt w2.heap.size W0 (.slice A2 ss.length c2) zs := hRow2.below hBz
  rw [hW0]
  clear hW0
  have cL0 := bL0.cell 0
  refine wpIn_rangeFunc_ownH rfl (by decide) (gf := 33) (lb := #[.pointer (some ⟨w2.heap.size + 1 + 1, 0, none⟩)]) rfl trivial (enters_of Try.func33 (by kernel_rfl) rfl)
    (all_stops 8 (by decide) (w2.heap.size + 1 + 1) T w.heap.size sv most hm zs hreach W0 (by omega) (by omega) (by omega) cL0 ((hB0.cell (p := ⟨T, 0, none⟩) hT).trans hl) ((hB0.cell (p := ⟨T, 1, none⟩) hT).trans hmost) (hI.below hB0)) belowK_t (belowK_b (by omega)) (Below.refl _ _) (fun _ => rfl)
    (fun pre W => (Bx W w2.heap.size #[.slice A2 ss.length c2] 41 ∧ Bx W (w2.heap.size + 1) #[.int .i64 (pre.length : Nat)] 3 ∧ Bx W w.heap.size #[.bool false] 4 ∧ RowAt w2.heap.size W (.slice A2 ss.length c2) zs ∧ pre <+: zs) ∧ Below w.heap.size w W)
    (fun c pre W => (c = .ret ∧ ¬ pre <+: zs) ∧ Below w.heap.size w W)
    (OwnFrom.and (Own.from (fun s A B row hs hg hr => ⟨bx_own w2.heap.size 41 (fun _ : Unit => #[.slice A2 ss.length c2]) () A B row hs.1 hg hr, bx_own (w2.heap.size + 1) 3 (fun pre : List HV => #[.int .i64 (pre.length : Nat)]) s A B row hs.2.1 hg hr, bx_own w.heap.size 4 (fun _ : Unit => #[.bool false]) () A B row hs.2.2.1 hg hr, rowAt_own _ _ _ () A B row hs.2.2.2.1 hg hr, hs.2.2.2.2⟩) _) (ownFrom_below (Nat.le_refl _) (by omega)))
    (fun c => OwnFrom.and (Own.from (fun s A B row hs hg hr => hs) _) (ownFrom_below (Nat.le_refl _) (by omega)))
    ⟨⟨bS0, bN0, bR0, hRow0, List.nil_prefix⟩, hB0⟩
    (fun x a' W => ∃ Bx', w2.heap.size + 1 < Bx' ∧ Bx W Bx' #[.int .i64 x.1, .int .i64 x.2.1] 23 ∧ a' = { tmps := #[.pointer (some ⟨T, 0, none⟩), .slice A0 l0.length c0, .int .i64 day, undef, undef, undef, .pointer (some ⟨w.heap.size, 0, none⟩), .pointer (some ⟨w2.heap.size, 0, none⟩), .pointer (some ⟨w2.heap.size + 1, 0, none⟩), .func (.func 33) #[] #[.pointer (some ⟨w2.heap.size + 1 + 1, 0, none⟩)], .pointer (some ⟨Bx', 0, none⟩), .int .i64 x.2.2, undef, undef, undef, undef, .slice A0 l0.length c0, .slice A2 ss.length c2, .pointer (some ⟨T, 0, none⟩), .func (.func 33) #[] #[.pointer (some ⟨w2.heap.size + 1 + 1, 0, none⟩)], .func (.func 33) #[] #[.pointer (some ⟨w2.heap.size + 1 + 1, 0, none⟩)], .bool false, .func (.func 33) #[] #[.pointer (some ⟨w2.heap.size + 1 + 1, 0, none⟩)], .agg #[.int .i64 x.1, .int .i64 x.2.1], .int .i64 x.2.2, undef, undef, undef, undef, undef, undef, undef, undef, undef, undef, undef, undef, undef, undef, undef, undef, undef, undef, undef, undef, undef, undef, undef, undef, undef, undef, undef, undef, undef, undef, undef, undef, undef, undef, undef, undef, undef, undef, undef, undef, undef, undef, undef, undef, undef, undef, undef, undef, undef, undef, undef, undef, undef, undef, undef, undef, undef, undef, undef, undef, undef, undef], defers := [] })
    (fun x a' _ X Y row hs hg hr => by obtain ⟨Bx', h1, h2, h3⟩ := hs; exact ⟨Bx', h1, bx_own Bx' 23 (fun (_ : Unit) => #[.int .i64 x.1, .int .i64 x.2.1]) () X Y row h2 hg (fun r e => (hr r e).2), h3⟩)
    ?assign ?body ?done ?stop
  case assign =>
    rintro l pre x W K ⟨⟨bS1, bN1, bR1, hRow, hp⟩, hB1⟩ hK
    simp only [encH]
    gi_wp2
    exact hK _ _ ((KeepsOthers.alloc _ _).from _) ((Below.refl _ W).alloc hB1.size _) ⟨⟨bS1.alloc _, bN1.alloc _, bR1.alloc _, rowAt_own _ _ _ () _ _ none hRow (World.grownBy_alloc W _ none) (fun r e => by cases e), hp⟩, hB1.alloc hB1.size _⟩ ⟨W.heap.size, bN1.lt, Bx.new W _ _, rfl⟩
  case body =>
    rintro l pre ⟨x0, x1, xv⟩ a' W hlW ⟨r, hr⟩ ⟨⟨bS1, bN1, bR1, hRow, hp⟩, hB1⟩ ⟨Bx', hBx, bX, rfl⟩ hlt
    dsimp only at bX ⊢
    have hsW := hB1.size
    have cX0 : W.cell? ⟨Bx', 0, none⟩ = some (.int .i64 x0) := by rw [bX.cell]; rfl
    have cX1 : W.cell? ⟨Bx', 1, none⟩ = some (.int .i64 x1) := by rw [bX.cell]; rfl
    have cS0 : W.cell? ⟨w2.heap.size, 0, none⟩ = some (.slice A2 ss.length c2) := by rw [bS1.cell]; rfl
    have cN0 : W.cell? ⟨w2.heap.size + 1, 0, none⟩ = some (.int .i64 (pre.length : Nat)) := by rw [bN1.cell]; rfl
    have fN0 := bN1.frozen 0
    have cR0 : W.cell? ⟨w.heap.size, 0, none⟩ = some (.bool false) := by rw [bR1.cell]; rfl
    have fR0 := bR1.frozen 0
    obtain ⟨z0, z1, zv, hz⟩ : ∃ z0 z1 zv, zs[pre.length]? = some (z0, z1, zv) := ⟨_, _, _, List.getElem?_eq_getElem hlt⟩
    rcases hRow with ⟨he, hzs⟩ | ⟨b, cap, he, hb, hcz⟩
    · rw [hzs] at hlt; exact absurd hlt (Nat.not_lt_zero _)
    · have hcz0 := hcz _ hlt
      rw [hz] at hcz0
      simp only [Option.getD_some] at hcz0
      obtain ⟨d0, d1, d2⟩ := hcz0
      have hRow : RowAt w2.heap.size W (.slice A2 ss.length c2) zs := .inr ⟨b, cap, he, hb, hcz⟩
      clear hcz
      have hlen : ss.length = zs.length := by rw [← hss, List.length_map]
      rw [he] at cS0
      generalize hnn : pre.length = n at *
      have hge : decide (zs.length ≤ n) = false := decide_eq_false (by omega)
      have hno : (pre ++ [(x0, x1, xv)]) <+: zs → (z0, z1, zv) = (x0, x1, xv) := fun h => prefix_at h (by rw [hnn]; exact hz)
      by_cases h0 : x0 = z0
      · subst h0
        by_cases h1 : x1 = z1
        · subst h1
          by_cases h2 : xv = zv
          · subst h2
            gi_wp2
            refine Rq.wpIn_region_quietR (by assumption) (by kernel_rfl) ?_
            repeat (gi_big_quiet_step (fail))
            refine wpQuietIn_nil ?_
            rintro _ ⟨nq, rfl⟩
            gi_wp2
            exact ⟨((keeps_drewN W nq).trans (KeepsOthers.setCell _ _ _)).from _, (below_dN (Below.refl _ W) nq).setCell (p := ⟨w2.heap.size + 1, 0, none⟩) (by simp; omega) _,
              ⟨Bx.other (bx_dN bS1 nq) (by omega) _, by have := (bx_dN bN1 nq).set (.int .i64 ((n : Int) + 1)); simpa [hnn] using this, Bx.other (bx_dN bR1 nq) (by omega) _,
                hRow.below ((below_dN (Below.refl _ W) nq).setCell (p := ⟨w2.heap.size + 1, 0, none⟩) (by simp) _), prefix_snoc hp (by rw [hnn]; exact hz)⟩, (below_dN hB1 nq).setCell (p := ⟨w2.heap.size + 1, 0, none⟩) (by simp; omega) _⟩
          · have hd : decide (xv = zv) = false := decide_eq_false h2
            have hd' : (xv == zv) = false := by simpa using h2
            have hno' : ¬ (pre ++ [(x0, x1, xv)]) <+: zs := fun h => h2 (by have := hno h; injection this with _ this; injection this with _ this; exact this.symm)
            gi_wp2
            refine Rq.wpIn_region_quietR (by assumption) (by kernel_rfl) ?_
            repeat (gi_big_quiet_step (fail))
            refine wpQuietIn_nil ?_
            rintro _ ⟨nq, rfl⟩
            gi_wp2
            exact ⟨((keeps_drewN W nq).trans (KeepsOthers.setCell _ _ _)).from _, ⟨rfl, hno'⟩, (below_dN hB1 nq).setCell (p := ⟨w.heap.size, 0, none⟩) (by simp) _⟩
        · have hd : decide (x1 = z1) = false := decide_eq_false h1
          have hd' : (x1 == z1) = false := by simpa using h1
          have hno' : ¬ (pre ++ [(x0, x1, xv)]) <+: zs := fun h => h1 (by have := hno h; injection this with _ this; injection this with this _; exact this.symm)
          gi_wp2
          refine Rq.wpIn_region_quietR (by assumption) (by kernel_rfl) ?_
          repeat (gi_big_quiet_step (fail))
          refine wpQuietIn_nil ?_
          rintro _ ⟨nq, rfl⟩
          gi_wp2
          exact ⟨((keeps_drewN W nq).trans (KeepsOthers.setCell _ _ _)).from _, ⟨rfl, hno'⟩, (below_dN hB1 nq).setCell (p := ⟨w.heap.size, 0, none⟩) (by simp) _⟩
      · have hd : decide (x0 = z0) = false := decide_eq_false h0
        have hd' : (x0 == z0) = false := by simpa using h0
        have hno' : ¬ (pre ++ [(x0, x1, xv)]) <+: zs := fun h => h0 (by have := hno h; injection this with this _; exact this.symm)
        gi_wp2
        refine Rq.wpIn_region_quietR (by assumption) (by kernel_rfl) ?_
        repeat (gi_big_quiet_step (fail))
        refine wpQuietIn_nil ?_
        rintro _ ⟨nq, rfl⟩
        gi_wp2
        exact ⟨((keeps_drewN W nq).trans (KeepsOthers.setCell _ _ _)).from _, ⟨rfl, hno'⟩, (below_dN hB1 nq).setCell (p := ⟨w.heap.size, 0, none⟩) (by simp) _⟩
  case done =>
    rintro D ys W hD rfl ⟨⟨bS1, bN1, bR1, hRow, hp⟩, hB1⟩ hK
    have hT1 : T < W.heap.size := Nat.lt_of_lt_of_le hT hB1.size
    have hl1 := (hB1.cell (p := ⟨T, 0, none⟩) hT).trans hl
    have hm1 := (hB1.cell (p := ⟨T, 1, none⟩) hT).trans hmost
    have hI1 : RowAt W.heap.size W sv ys := hI.below hB1 |>.up hB1.size
    have hC2 := Kd.C_below hC hB1
    have hlen : ss.length = ys.length := by rw [← hss, List.length_map]
    have pack : ∀ w5, Below W.heap.size W w5 → Bx w5 w2.heap.size #[.slice A2 ss.length c2] 41 ∧ Bx w5 (w2.heap.size + 1) #[.int .i64 (ys.length : Nat)] 3 ∧ Bx w5 w.heap.size #[.bool false] 4 ∧ w5.cell? ⟨T, 0, none⟩ = some sv ∧ w5.cell? ⟨T, 1, none⟩ = some (.int .i64 most) ∧ RowAt w5.heap.size w5 sv ys ∧ Kd.C k27 w5 A0 l0.length l0 ∧ w5.heap[D]? = some (.deferred (some [])) ∧ W.heap.size ≤ w5.heap.size := fun w5 h =>
      ⟨bS1.below h bS1.lt, bN1.below h bN1.lt, bR1.below h bR1.lt, (h.cell (p := ⟨T, 0, none⟩) hT1).trans hl1, (h.cell (p := ⟨T, 1, none⟩) hT1).trans hm1, (hI1.below h).up h.size, Kd.C_below hC2 h, (h.block D (Array.getElem?_eq_some_iff.1 hK).1).trans hK, h.size⟩
    gi_wp2_with (first | (refine ⟨trivial, ?_⟩; gi_at_call 12; refine (callsIn_wide.2 (hat W hT1 hl1 hm1 hI1)).mono ?_; rintro e w5 ⟨rfl, hb5⟩; obtain ⟨bS5, bN5, bR5, hl5, hm5, hI5, hC5, hK5, hs5⟩ := pack w5 hb5) | (refine ⟨trivial, ?_⟩; gi_at_call 27; refine (callsIn_wide.2 (octroiref13_At.calls k2 A0 c0 l0 day _ _ w5 hC5 hc0 hA)).mono ?_; rintro e w6 ⟨rfl, hb6⟩; obtain ⟨bS6, bN6, bR6, hl6, hm6, hI6, hC6, hK6, hs6⟩ := pack w6 (hb5.trans (hb6.below.mono (by omega)))))
    have cN6 := bN6.cell 0
    have cS6 := bS6.cell 0
    have cR6 := bR6.cell 0
    have fR6 := bR6.frozen 0
    have hl6' : w6.drew.cell? ⟨T, 0, none⟩ = some sv := hl6
    have hm6' : w6.drew.cell? ⟨T, 1, none⟩ = some (.int .i64 most) := hm6
    have hI6' : RowAt w6.drew.heap.size w6.drew sv ys := hI6
    rw [hlen] at cS6
    have hlD : ∀ k, (w6.drewN k).cell? ⟨T, 0, none⟩ = some sv := fun k => hl6
    have hmD : ∀ k, (w6.drewN k).cell? ⟨T, 1, none⟩ = some (.int .i64 most) := fun k => hm6
    have hID : ∀ k, RowAt (w6.drewN k).heap.size (w6.drewN k) sv ys := fun k => hI6
    have hwd : Fence.wide.fn 13 := trivial
    refine Rq.wpIn_region_last2 (by assumption) rfl (by kernel_rfl) (by kernel_rfl) ?_
    dsimp only [List.dropLast]
    repeat (gi_big_quiet_step ((gi_at_call 13; refine (callsIn_wide.2 (len_line T sv most hm ys _ (hlD _) (hmD _) (hID _))).mono ?_; rintro e w7 ⟨rfl, hww⟩; rw [hww]; exact ⟨rfl, _, rfl⟩)))
    refine wpQuietIn_nil ?_
    rintro _ ⟨nq, rfl⟩
    gi_wp2
    have hK' := (KeepsOthers.setCell (w6.drewN nq) ⟨w.heap.size, 0, none⟩ (.bool true)).same D _ hK6 rfl
    refine ⟨by simp, .inl ⟨_, _, rfl, run_takeDeferred hK', ?_⟩⟩
    have hc5 := cell_kept (World.cell?_setCell_same' (w6.drewN nq) ⟨w.heap.size, 0, none⟩ (.bool true) (by rw [show (w6.drewN nq).cell? ⟨w.heap.size, 0, none⟩ = _ from cR6]; rfl)) (grownBy_putObj' _ D (.deferred none)) (fun r e => by cases e; exact ⟨_, hK', rfl⟩)
    have hB6 : Below w.heap.size w w6 := hB1.trans ((hb5.trans (hb6.below.mono (by omega))).mono (by have := hB1.size; omega))
    refine ⟨.bool true, ?_, rfl, ((below_dN hB6 nq).setCell (p := ⟨w.heap.size, 0, none⟩) (by simp) _).trans (belowK_b (w := w) (Nat.le_refl _) _ D _ _ (by omega) hK' rfl rfl)⟩
    simp [results, Try.f15, go_sem, hc5]
  case stop =>
    rintro D c pre W hD hpre ⟨⟨rfl, hno⟩, hB1⟩ hK
    exact absurd hpre hno
end Go.Proofs.Ytbmapmigiokbcaa.Print
namespace Go.Proofs.Ytbmapmigiokbcaa.Print
open Go.RowKit Go.Proofs.YtbmapmigiokbcaaW.PrintWords Go.Proofs.YtbmapmigiokbcaaW.PrintLast Go.Proofs.YtbmapmigiokbcaaW.PrintMore
attribute [local go_sem] max2_int min2_int max_two min_two max_three min_three max_four min_four   -- for this text's walks alone
set_option linter.unusedVariables false
set_option linter.unusedSimpArgs false
end Go.Proofs.Ytbmapmigiokbcaa.Print
namespace Go.Proofs.Ytbmapmigiokbcaa.Print
open Go.RowKit Go.Proofs.YtbmapmigiokbcaaW.PrintWords Go.Proofs.YtbmapmigiokbcaaW.PrintLast Go.Proofs.YtbmapmigiokbcaaW.PrintMore
attribute [local go_sem] max2_int min2_int max_two min_two max_three min_three max_four min_four   -- for this text's walks alone
set_option linter.unusedVariables false
set_option linter.unusedSimpArgs false
def octroiref13_Gap.l0 : Nat → List (S27) → Int → Int → Int → Int → Option (Int)
  | 0, _, _, _, _, _ => none
  | k + 1, x0, x1, x2, x7, x8 => if x8 < (x0.length : Int) then (if 0 ≤ x8 then ((octroiref13_Meet.f ((rd_T27 x0 x8).f0) ((rd_T27 x0 x8).f1) ((rd_T27 x0 x8).f2) x1 x2 0).bind fun bt153 => (if bt153.2.2.2 = true then (octroiref13_Gap.l0 k x0 x1 x2 (wrap64 (x7 - (wrap64 ((wrap64 (bt153.2.1 - bt153.1)) + 1)))) (wrap64 (x8 + 1))) else (octroiref13_Gap.l0 k x0 x1 x2 x7 (wrap64 (x8 + 1))))) else (none)) else (some x7)
def octroiref13_Gap.f (k : Nat) (l0 : List (S27)) (a1 : Int) (a2 : Int) : Option (Int) := (octroiref13_Right.f a1 a2).bind fun t151 => (if t151 = true then (octroiref13_Gap.l0 k l0 a1 a2 (wrap64 ((wrap64 (a2 - a1)) + 1)) 0) else (some 0))
theorem octroiref13_Gap.mono_l : ∀ k, (∀ y0 y1 y2 y3 y4, LeO (octroiref13_Gap.l0 k y0 y1 y2 y3 y4) (octroiref13_Gap.l0 (k + 1) y0 y1 y2 y3 y4))
  | 0 => fun _ _ _ _ _ r h => by simp [octroiref13_Gap.l0] at h
  | k + 1 => by
    have ih0 := octroiref13_Gap.mono_l k
    · intro y0 y1 y2 y3 y4
      unfold octroiref13_Gap.l0
      repeat' first
      | (with_reducible exact ih0 _ _ _ _ _)
      | (with_reducible exact LeO.refl _)
      | (with_reducible exact LeO.none _)
      | (with_reducible refine LeO.ite ?_ ?_)
      | (with_reducible refine LeO.bind ?_ (fun _ => ?_))
      | exact ih0 _ _ _ _ _
      | exact LeO.none _
      | refine LeO.ite ?_ ?_
      | refine LeO.bind ?_ (fun _ => ?_)
theorem octroiref13_Gap.mono : ∀ a0 a1 a2 k, LeO (octroiref13_Gap.f k a0 a1 a2) (octroiref13_Gap.f (k + 1) a0 a1 a2) := by
  intro a0 a1 a2 k
  have ih0 := octroiref13_Gap.mono_l k
  unfold octroiref13_Gap.f
  repeat' first
      | (with_reducible exact ih0 _ _ _ _ _)
      | (with_reducible exact LeO.refl _)
      | (with_reducible exact LeO.none _)
      | (with_reducible refine LeO.ite ?_ ?_)
      | (with_reducible refine LeO.bind ?_ (fun _ => ?_))
      | exact ih0 _ _ _ _ _
      | exact LeO.none _
      | refine LeO.ite ?_ ?_
      | refine LeO.bind ?_ (fun _ => ?_)
set_option maxHeartbeats 8000000 in
set_option maxRecDepth 100000 in
theorem octroiref13_Gap.calls (k : Nat) (A0 : Option Addr) (c0 : Nat) (l0 : List (S27)) (a1 : Int) (a2 : Int) (r : Int) (w : World) (hr0 : Kd.C k27 w A0 l0.length l0) (hc0 : l0.length ≤ c0) (h : octroiref13_Gap.f k l0 a1 a2 = some r) :
    Calls Try.prog 18 #[.slice A0 l0.length c0, .int .i64 a1, .int .i64 a2] w fun e w' => e = .returned (.int .i64 r) ∧ Below w.heap.size w w' := by
  have hu27 := Try.underlying27
  have HR0 := Aside0.mk hr0
  have HC0 := Aside0.mk hc0
  clear hr0 hc0
  have HB := Aside0.mk (Below.refl w.heap.size w)
  have H : ((octroiref13_Right.f a1 a2).bind fun t151 => (if t151 = true then (octroiref13_Gap.l0 k l0 a1 a2 (wrap64 ((wrap64 (a2 - a1)) + 1)) 0) else (some 0))) = some r := h
  clear h
  replace H := Option.bind_eq_some_iff.mp H
  obtain ⟨t151, A40, H⟩ := H
  replace H : (if t151 = true then (octroiref13_Gap.l0 k l0 a1 a2 (wrap64 ((wrap64 (a2 - a1)) + 1)) 0) else (some 0)) = some r := H
  have A4 := Aside0.mk A40
  clear A40
  by_cases c5 : t151 = true
  · subst c5
    have H1 : (octroiref13_Gap.l0 k l0 a1 a2 (wrap64 ((wrap64 (a2 - a1)) + 1)) 0) = some r := by rw [if_pos rfl] at H; exact H
    clear H
    have H := H1
    clear H1
    have H' := Aside0.mk H
    clear H
    go_enter Try.func18, Try.ntmps18
    go_wp2_with (first | ((with_reducible refine gate_callee (f := 20) rfl ?_); refine goesL_ (some 13) rfl rfl Try.func20 (by kernel_rfl) rfl #[.int .i64 a1, .int .i64 a2] rfl (by (try simp only [List.map_toArray, List.map_cons, List.map_nil]); first | done | rfl | (simp only [List.length_drop, List.length_take]; rfl)) ?_; (with_reducible refine (octroiref13_Right.calls a1 a2 true _ A4.out).mono ?_); rintro e w' ⟨rfl, ⟨nd, rfl⟩⟩; refine ⟨_, rfl, ?_⟩))
    go_loopg [7, 8] k (fun kq v7 v8 w' => ∃ (x7_1 : Int) (x8_1 : Int), v7 = .int .i64 x7_1 ∧ v8 = .int .i64 x8_1 ∧ Aside0 (octroiref13_Gap.l0 kq l0 a1 a2 x7_1 x8_1 = some r) ∧ Aside0 (kq ≤ k) ∧ Aside0 (Below w.heap.size w w'))
    case atStart => exact ⟨(wrap64 ((wrap64 (a2 - a1)) + 1)), (0), (by first | rfl | (simp; done) | (simp [*]; done)), (by first | rfl | (simp; done) | (simp [*]; done)), H', ⟨Nat.le_refl _⟩, ⟨by repeat (first | (with_reducible first | exact HB.out | apply below_alloc | apply pw_below_drewN | apply below_drew1) | exact HB.out)⟩⟩
    case round =>
      clear H'
      try clear c1
      try clear c2
      try clear p2
      try clear c5
      obtain ⟨x7_1, x8_1, rfl, rfl, HA, HK1, HB⟩ := hrel
      cases gk with
      | zero => exact absurd HA.out (by simp [octroiref13_Gap.l0])
      | succ k1 =>
        have H := HA.out
        clear HA
        simp only [octroiref13_Gap.l0] at H
        by_cases c6 : x8_1 < (l0.length : Int)
        · rw [if_pos c6] at H
          have c6b0 : decide (x8_1 < (l0.length : Int)) = true := decide_eq_true c6
          clear c6
          by_cases c7 : 0 ≤ x8_1
          · rw [if_pos c7] at H
            have c7b0 : decide (0 ≤ x8_1) = true := decide_eq_true c7
            clear c7
            replace H := Option.bind_eq_some_iff.mp H
            obtain ⟨⟨t153, t154, t155, t156⟩, A80, H⟩ := H
            replace H : (if t156 = true then (octroiref13_Gap.l0 k1 l0 a1 a2 (wrap64 (x7_1 - (wrap64 ((wrap64 (t154 - t153)) + 1)))) (wrap64 (x8_1 + 1))) else (octroiref13_Gap.l0 k1 l0 a1 a2 x7_1 (wrap64 (x8_1 + 1)))) = some r := H
            have A8 := Aside0.mk A80
            clear A80
            by_cases c9 : t156 = true
            · subst c9
              have H1 : (octroiref13_Gap.l0 k1 l0 a1 a2 (wrap64 (x7_1 - (wrap64 ((wrap64 (t154 - t153)) + 1)))) (wrap64 (x8_1 + 1))) = some r := by rw [if_pos rfl] at H; exact H
              clear H
              have H := H1
              clear H1
              have H' := Aside0.mk H
              clear H
              have p152 : 0 ≤ (x8_1 : Int) := of_decide_eq_true (by first | (with_reducible assumption) | assumption)
              have q152 : x8_1 < (l0.length : Int) := of_decide_eq_true (by first | (with_reducible assumption) | assumption)
              obtain ⟨ad152, e152, hx152_0, hx152_1, hx152_2⟩ := at_T27 HR0.out x8_1 p152 q152
              cases e152
              replace hx152_0 := (HB.out.cell (World.block_lt_of_cell? w _ hx152_0)).trans hx152_0
              replace hx152_1 := (HB.out.cell (World.block_lt_of_cell? w _ hx152_1)).trans hx152_1
              replace hx152_2 := (HB.out.cell (World.block_lt_of_cell? w _ hx152_2)).trans hx152_2
              replace p152 := eq_true p152
              replace q152 := eq_true q152
              go_wp2_with (first | ((with_reducible refine gate_callee (f := 7) rfl ?_); refine goesL_ (some 33) rfl rfl Try.func7 (by kernel_rfl) rfl #[.agg #[.int .i64 ((rd_T27 l0 x8_1).f0), .int .i64 ((rd_T27 l0 x8_1).f1), .int .i64 ((rd_T27 l0 x8_1).f2)], .agg #[.int .i64 a1, .int .i64 a2, .int .i64 0]] rfl (by (try simp only [List.map_toArray, List.map_cons, List.map_nil]); first | done | rfl | (simp only [List.length_drop, List.length_take]; rfl)) ?_; (with_reducible refine (octroiref13_Meet.calls ((rd_T27 l0 x8_1).f0) ((rd_T27 l0 x8_1).f1) ((rd_T27 l0 x8_1).f2) a1 a2 0 t153 t154 t155 true _ A8.out).mono ?_); rintro e w10 ⟨rfl, hb⟩; refine ⟨_, rfl, ?_⟩; have n0_ := Aside0.mk (below_step (by repeat (first | (with_reducible first | exact HB.out | apply below_alloc | apply pw_below_drewN | apply below_drew1) | exact HB.out)) hb); clear HB; have HB := n0_; clear n0_; (try clear hb); (try clear hb2); (try clear hk); (try clear hi)) | ((with_reducible refine gate_dst (N := 9) rfl ?_); refine box_event ?hg (N := 9) ?hd (cs := #[.int .i64 0, .int .i64 0, .int .i64 0]) (t := 27) ?hr ?_; (case hd => rfl); (case hg => rfl); (case hr => first | (go_simp; done) | (go_simp; rfl)); intro gb157 hg w11 hbox hb; have n0_ := Aside0.mk (below_step (by repeat (first | (with_reducible first | exact HB.out | apply below_alloc | apply pw_below_drewN | apply below_drew1) | exact HB.out)) hb); have n1_ := Aside0.mk (hbox); have n2_ := Aside0.mk ((by rw [hg]; exact (below_size (by repeat (first | (with_reducible first | exact HB.out | apply below_alloc | apply pw_below_drewN | apply below_drew1) | exact HB.out))) : w.heap.size ≤ gb157)); have n3_ := Aside0.mk ((by rw [hg]; exact (below_size (by repeat (first | (with_reducible first | exact HB.out | apply below_alloc | apply pw_below_drewN | apply below_drew1) | exact HB.out))) : w.heap.size ≤ gb157)); clear HB; have HB := n0_; have BK157 := n1_; have GW157 := n2_; have GE157 := n3_; clear n0_ n1_ n2_ n3_; clear hb hbox hg; have hcz12_0 : w11.cell? ⟨gb157, 0, none⟩ = some (.int .i64 0) := (blk_cell BK157.out 0).trans rfl; have hcz12_1 : w11.cell? ⟨gb157, 1, none⟩ = some (.int .i64 0) := (blk_cell BK157.out 1).trans rfl; have hcz12_2 : w11.cell? ⟨gb157, 2, none⟩ = some (.int .i64 0) := (blk_cell BK157.out 2).trans rfl; have hfz12_0 := blk_frozen BK157.out 0; have hfz12_1 := blk_frozen BK157.out 1; have hfz12_2 := blk_frozen BK157.out 2))
              go_roundg k1
              case measure => have := HK1.out; omega
              case rel => exact ⟨(wrap64 (x7_1 - (wrap64 ((wrap64 (t154 - t153)) + 1)))), (wrap64 (x8_1 + 1)), (by first | rfl | (simp; done) | (simp [*]; done)), (by first | rfl | (simp; done) | (simp [*]; done)), H', ⟨by have := HK1.out; omega⟩, ⟨by repeat (first | (with_reducible first | exact HB.out | apply below_alloc | apply pw_below_drewN | apply below_drew1 | refine below_set ?_ GE157.out) | exact HB.out)⟩⟩
            · replace c9 := Bool.eq_false_iff.mpr c9
              subst c9
              have H1 : (octroiref13_Gap.l0 k1 l0 a1 a2 x7_1 (wrap64 (x8_1 + 1))) = some r := by rw [if_neg (show ¬ (false = true) by decide)] at H; exact H
              clear H
              have H := H1
              clear H1
              have H' := Aside0.mk H
              clear H
              have p152 : 0 ≤ (x8_1 : Int) := of_decide_eq_true (by first | (with_reducible assumption) | assumption)
              have q152 : x8_1 < (l0.length : Int) := of_decide_eq_true (by first | (with_reducible assumption) | assumption)
              obtain ⟨ad152, e152, hx152_0, hx152_1, hx152_2⟩ := at_T27 HR0.out x8_1 p152 q152
              cases e152
              replace hx152_0 := (HB.out.cell (World.block_lt_of_cell? w _ hx152_0)).trans hx152_0
              replace hx152_1 := (HB.out.cell (World.block_lt_of_cell? w _ hx152_1)).trans hx152_1
              replace hx152_2 := (HB.out.cell (World.block_lt_of_cell? w _ hx152_2)).trans hx152_2
              replace p152 := eq_true p152
              replace q152 := eq_true q152
              go_wp2_with (first | ((with_reducible refine gate_callee (f := 7) rfl ?_); refine goesL_ (some 33) rfl rfl Try.func7 (by kernel_rfl) rfl #[.agg #[.int .i64 ((rd_T27 l0 x8_1).f0), .int .i64 ((rd_T27 l0 x8_1).f1), .int .i64 ((rd_T27 l0 x8_1).f2)], .agg #[.int .i64 a1, .int .i64 a2, .int .i64 0]] rfl (by (try simp only [List.map_toArray, List.map_cons, List.map_nil]); first | done | rfl | (simp only [List.length_drop, List.length_take]; rfl)) ?_; (with_reducible refine (octroiref13_Meet.calls ((rd_T27 l0 x8_1).f0) ((rd_T27 l0 x8_1).f1) ((rd_T27 l0 x8_1).f2) a1 a2 0 t153 t154 t155 false _ A8.out).mono ?_); rintro e w13 ⟨rfl, hb⟩; refine ⟨_, rfl, ?_⟩; have n0_ := Aside0.mk (below_step (by repeat (first | (with_reducible first | exact HB.out | apply below_alloc | apply pw_below_drewN | apply below_drew1) | exact HB.out)) hb); clear HB; have HB := n0_; clear n0_; (try clear hb); (try clear hb2); (try clear hk); (try clear hi)) | ((with_reducible refine gate_dst (N := 9) rfl ?_); refine box_event ?hg (N := 9) ?hd (cs := #[.int .i64 0, .int .i64 0, .int .i64 0]) (t := 27) ?hr ?_; (case hd => rfl); (case hg => rfl); (case hr => first | (go_simp; done) | (go_simp; rfl)); intro gb157 hg w14 hbox hb; have n0_ := Aside0.mk (below_step (by repeat (first | (with_reducible first | exact HB.out | apply below_alloc | apply pw_below_drewN | apply below_drew1) | exact HB.out)) hb); have n1_ := Aside0.mk (hbox); have n2_ := Aside0.mk ((by rw [hg]; exact (below_size (by repeat (first | (with_reducible first | exact HB.out | apply below_alloc | apply pw_below_drewN | apply below_drew1) | exact HB.out))) : w.heap.size ≤ gb157)); have n3_ := Aside0.mk ((by rw [hg]; exact (below_size (by repeat (first | (with_reducible first | exact HB.out | apply below_alloc | apply pw_below_drewN | apply below_drew1) | exact HB.out))) : w.heap.size ≤ gb157)); clear HB; have HB := n0_; have BK157 := n1_; have GW157 := n2_; have GE157 := n3_; clear n0_ n1_ n2_ n3_; clear hb hbox hg; have hcz15_0 : w14.cell? ⟨gb157, 0, none⟩ = some (.int .i64 0) := (blk_cell BK157.out 0).trans rfl; have hcz15_1 : w14.cell? ⟨gb157, 1, none⟩ = some (.int .i64 0) := (blk_cell BK157.out 1).trans rfl; have hcz15_2 : w14.cell? ⟨gb157, 2, none⟩ = some (.int .i64 0) := (blk_cell BK157.out 2).trans rfl; have hfz15_0 := blk_frozen BK157.out 0; have hfz15_1 := blk_frozen BK157.out 1; have hfz15_2 := blk_frozen BK157.out 2))
              go_roundg k1
              case measure => have := HK1.out; omega
              case rel => exact ⟨(x7_1), (wrap64 (x8_1 + 1)), (by first | rfl | (simp; done) | (simp [*]; done)), (by first | rfl | (simp; done) | (simp [*]; done)), H', ⟨by have := HK1.out; omega⟩, ⟨by repeat (first | (with_reducible first | exact HB.out | apply below_alloc | apply pw_below_drewN | apply below_drew1 | refine below_set ?_ GE157.out) | exact HB.out)⟩⟩
          · rw [if_neg c7] at H
            exact absurd H (by simp)
        · rw [if_neg c6] at H
          have c6b0 : decide (x8_1 < (l0.length : Int)) = false := decide_eq_false c6
          clear c6
          obtain rfl := Option.some.inj H
          go_wp2
          go_ret
          exact ⟨by first | rfl | (simp [errW_none, errW_some] <;> rfl) | (simp [*, errW_none, errW_some] <;> rfl), by repeat (first | (with_reducible first | exact HB.out | apply below_alloc | apply pw_below_drewN | apply below_drew1) | exact HB.out)⟩
  · replace c5 := Bool.eq_false_iff.mpr c5
    subst c5
    have H1 : (some 0) = some r := by rw [if_neg (show ¬ (false = true) by decide)] at H; exact H
    clear H
    have H := H1
    clear H1
    obtain rfl := Option.some.inj H
    go_enter Try.func18, Try.ntmps18
    go_wp2_with (first | ((with_reducible refine gate_callee (f := 20) rfl ?_); refine goesL_ (some 13) rfl rfl Try.func20 (by kernel_rfl) rfl #[.int .i64 a1, .int .i64 a2] rfl (by (try simp only [List.map_toArray, List.map_cons, List.map_nil]); first | done | rfl | (simp only [List.length_drop, List.length_take]; rfl)) ?_; (with_reducible refine (octroiref13_Right.calls a1 a2 false _ A4.out).mono ?_); rintro e w' ⟨rfl, ⟨nd, rfl⟩⟩; refine ⟨_, rfl, ?_⟩))
    go_ret
    exact ⟨by first | rfl | (simp [errW_none, errW_some] <;> rfl) | (simp [*, errW_none, errW_some] <;> rfl), by repeat (first | (with_reducible first | exact HB.out | apply below_alloc | apply pw_below_drewN | apply below_drew1) | exact HB.out)⟩
end Go.Proofs.Ytbmapmigiokbcaa.Print
namespace Go.Proofs.Ytbmapmigiokbcaa.Ax
open Go Go.RowKit Go.Proofs.YtbmapmigiokbcaaW.PrintWords
set_option linter.unusedVariables false
set_option linter.unusedSimpArgs false
theorem gives_same {P : Program} {B : Nat → Prop} {f : FuncId} {fn : Func} (hf : P.funcs[f]? = some fn) (hname : (fn.name == "runtime.NumGoroutine") = false) (hbody : fn.body.isSome = true) {args : Array Value} {ρ : Rho} {h : Hp} {w : World} {lo : Nat} {s : SV}
    (hr : HR B ρ h w) (up : ∀ b, w.heap.size ≤ b → B b) (hc : Calls P f args w fun x w' => x = .returned (den ρ s) ∧ Below w.heap.size w w') :
    CallGives P f args w fun v' w' => ∃ ρ', Made B ρ h w lo (lo + wide) ⟨s, []⟩ ρ' v' w' := by
  obtain ⟨c0, hbody⟩ := Option.isSome_iff_exists.1 hbody
  refine .inl ⟨run_callFunc_enter' hf hname hbody _ _, hc.mono ?_⟩
  rintro x w' ⟨rfl, hb⟩
  exact ⟨_, rfl, ρ, rfl, fun _ _ => rfl, hr.keep hb.size fun i o ho hd hn => hb.block _ ((hr.ok i o ho).lt hd hn), Keeps.of_below hb up⟩
end Go.Proofs.Ytbmapmigiokbcaa.Ax
namespace Go.Proofs.Ytbmapmigiokbcaa.Ax
open Go Go.RowKit Go.Proofs.YtbmapmigiokbcaaW.PrintWords
set_option linter.unusedVariables false
set_option linter.unusedSimpArgs false
mutual
theorem ren_lt0 (m : Nat → Nat) : ∀ s : SV, s.lt 0 = true → ren m s = s
  | .v _, _ => rfl
  | .ptr id _, h => absurd (blt_lt h) (Nat.not_lt_zero _)
  | .elt id _ _ _, h => absurd (blt_lt h) (Nat.not_lt_zero _)
  | .slc id _ _ _ _, h => absurd (blt_lt h) (Nat.not_lt_zero _)
  | .all id, h => absurd (blt_lt h) (Nat.not_lt_zero _)
  | .map id, h => absurd (blt_lt h) (Nat.not_lt_zero _)
  | .fn _ fi ca, h => by
    simp only [SV.lt, Bool.and_eq_true] at h
    simp only [ren]; rw [renL_lt0 m fi h.1, renL_lt0 m ca h.2]
  | .agg l, h => by simp only [ren]; rw [renL_lt0 m l h]
  | .tup l, h => by simp only [ren]; rw [renL_lt0 m l h]
theorem renL_lt0 (m : Nat → Nat) : ∀ l : List SV, ltL 0 l = true → renL m l = l
  | [], _ => rfl
  | s :: l, h => by
    simp only [ltL, Bool.and_eq_true] at h
    simp only [renL]; rw [ren_lt0 m s h.1, renL_lt0 m l h.2]
end
section
variable {P : Program} {C : FuncId → Option Con} {cn : Nat → St → Option St} {F : Nat} {B : Nat → Prop} {f : FuncId} {fn : Func} {ρ : Rho} {h : Hp} {w : World} {lo : Nat}
end
theorem arg_of_C {α : Type} {d : Kd α} {s : List Sc} {f : α → TT s} (hd : ∀ w x c, d.K w x c → c = enc s (f x)) (hsz : d.sz = s.length) (hs0 : 0 < s.length) {w : World} {A : Option Addr} {c : Nat} {l : List α} (h : Kd.C d w A l.length l) (hc : l.length ≤ c) (hl : l ≠ []) :
    ∃ L : Loc, L.nil = false ∧ L.len = l.length ∧ L.cap = c ∧ A = some ⟨L.blk, L.off, none⟩ ∧ (∀ ρ, OK ρ w L (.arg s (l.map f))) := by
  have hpos : 0 < l.length := by cases l with | nil => exact absurd rfl hl | cons => simp
  obtain ⟨h1, h2, h3⟩ := h
  obtain ⟨ad, rfl, hcell⟩ := h3 hpos
  have cells : ∀ j p, l[j]? = some p → ∀ i u, (enc s (f p))[i]? = some u → w.cell? (ad.add (j * s.length + i)) = some u := by
    intro j p hp i u hu
    obtain ⟨cs, k1, k2, k3⟩ := hcell j p hp
    have := k3 i u (by rw [hd w p cs k2]; exact hu)
    rwa [hsz] at this
  obtain ⟨p0, hp0⟩ : ∃ p0, l[0]? = some p0 := ⟨_, List.getElem?_eq_getElem hpos⟩
  obtain ⟨u0, hu0⟩ : ∃ u0, (enc s (f p0))[0]? = some u0 := ⟨_, List.getElem?_eq_getElem (by rw [enc_length]; exact hs0)⟩
  have c0 := cells 0 p0 hp0 0 u0 hu0
  have hz : ad.add (0 * s.length + 0) = ad := by unfold Addr.add; rw [if_pos (by omega)]
  rw [hz] at c0
  have hsp : ad.spot = none ∧ ad.block < w.heap.size := by
    unfold World.cell? at c0
    cases hb : w.heap[ad.block]? with
    | none => rw [hb] at c0; cases c0
    | some o =>
      refine ⟨?_, (Array.getElem?_eq_some_iff.1 hb).1⟩
      rw [hb] at c0
      cases o with
      | cells cc ty fr =>
        simp only at c0
        cases hs : ad.spot with
        | none => rfl
        | some z => rw [hs] at c0; simp at c0
      | _ => cases c0
  have hadd : ∀ n, ad.add n = ⟨ad.block, ad.off + n, none⟩ := by
    intro n
    unfold Addr.add
    split
    · rename_i e; subst e; cases ad; simp at hsp; simp [hsp.1]
    · rfl
  refine ⟨⟨ad.block, ad.off, l.length, c, false, none⟩, rfl, rfl, rfl, ?_, fun ρ => ⟨by simp, .inr ⟨rfl, hsp.2, by simp; exact hc, fun j v hv => ?_⟩⟩⟩
  · cases ad; simp at hsp; simp [hsp.1]
  · -- the flat cells
    have hfl : ∀ (l : List α) (j : Nat) (v : Value), (flat s (l.map f))[j]? = some v → ∃ q p, l[q]? = some p ∧ (enc s (f p))[j - q * s.length]? = some v ∧ q * s.length ≤ j := by
      intro l
      induction l with
      | nil => intro j v hv; simp [flat] at hv
      | cons x l ih =>
        intro j v hv
        simp only [flat, List.map_cons, List.flatten_cons] at hv ih
        by_cases hj : j < s.length
        · rw [List.getElem?_append_left (by rw [enc_length]; exact hj)] at hv
          exact ⟨0, x, rfl, by simpa using hv, by omega⟩
        · rw [List.getElem?_append_right (by rw [enc_length]; omega), enc_length] at hv
          obtain ⟨q, p, k1, k2, k3⟩ := ih (j - s.length) v hv
          refine ⟨q + 1, p, by simpa using k1, ?_, by rw [Nat.succ_mul]; omega⟩
          rw [Nat.succ_mul, show j - (q * s.length + s.length) = j - s.length - q * s.length by omega]
          exact k2
    obtain ⟨q, p, k1, k2, k3⟩ := hfl l j v hv
    have := cells q p k1 _ v k2
    rw [show q * s.length + (j - q * s.length) = j by omega, hadd] at this
    exact this
end Go.Proofs.Ytbmapmigiokbcaa.Ax
namespace Go.Proofs.Ytbmapmigiokbcaa.Ax
open Go Go.RowKit Go.Proofs.YtbmapmigiokbcaaW.PrintWords
set_option linter.unusedVariables false
set_option linter.unusedSimpArgs false
theorem row_of_C {α : Type} {d : Kd α} {s : List Sc} {f : α → TT s} (hd : ∀ w x c, d.K w x c → c = enc s (f x)) (hsz : d.sz = s.length) (hs0 : 0 < s.length) {w : World} {A : Option Addr} {c : Nat} {l : List α} (h : Kd.C d w A l.length l) (hc : l.length ≤ c) :
    ∃ L : Loc, (∀ (ρ : Rho) id, ρ id = L → den ρ (.all id) = .slice A l.length c) ∧ (∀ ρ, OK ρ w L (.arg s (l.map f))) := by
  by_cases hl : l = []
  · subst hl
    exact ⟨⟨0, 0, 0, c, true, A⟩, fun ρ id hid => by simp only [den, hid, if_true]; rfl, fun ρ => ⟨rfl, .inl ⟨rfl, rfl⟩⟩⟩
  · obtain ⟨L, h1, h2, h3, rfl, h5⟩ := arg_of_C hd hsz hs0 h hc hl
    exact ⟨L, fun ρ id hid => by simp only [den, hid, h1, h2, h3, Bool.false_eq_true, if_false], h5⟩
section
variable {P : Program} {C : FuncId → Option Con} {cn : Nat → St → Option St} {F : Nat} {f : FuncId} {fn : Func}
theorem calls_of_X (hm : P.follows .mixedOrders = true) (hf : P.funcs[f]? = some fn) (hC : ∀ B' g φ, C g = some φ → ConOk P B' g φ) (hcn : ∀ B' (w : World), CnOk cn B' (Base.of w) fn.ntmps) {lin : List Pc} {x : PT lin} {b : Bool}
    (hev : evX P C cn F fn lin [.one .bool] x = some (b, ())) (ρ : Rho) (w : World) (hok : InOk w 0 (cntP lin 0) (hcA lin x 0) ρ) :
    Calls P f (denL ρ (encA lin x 0)).toArray w fun e w' => e = .returned (.bool b) ∧ Below w.heap.size w w' := by
  have hr : HR (fun b => w.heap.size ≤ b) ρ (hcA lin x 0) w := by
    refine ⟨fun i oc hi => (hok i oc hi).2.2.2.2, fun i oc hi hw => ?_, fun i oc hi hs hn => ?_, fun i j oc oc' hi hj hw => ?_⟩
    · have := (hok i oc hi).2.2.1
      cases oc <;> first | (cases hw; done) | (cases this; done)
    · have := (hok i oc hi).2.2.2.2.lt (fun e => by subst e; cases hs) hn
      show ¬ w.heap.size ≤ _
      omega
    · have := (hok i oc hi).2.2.1
      cases oc <;> first | (cases hw; done) | (cases this; done)
  refine (evFn_sound hm hf (hC _) hev ρ w (Base.of w) rfl (fun i hi => absurd hi (Nat.not_lt_zero _)) (Nat.zero_le _) (hcn _ w) hr (fun i oc hi => ⟨(hok i oc hi).2.1, AObj.lt_mono (Nat.zero_le _) oc (hok i oc hi).2.2.2.1⟩) (encA_lt lin x 0 _ (Nat.le_refl _)) (fun b hb => hb)).mono ?_
  rintro e w' ⟨ρ', s', h', rfl, hk, _, hks, _⟩
  obtain ⟨vs, hvs, rfl⟩ := KX_res hk
  refine ⟨?_, hks.below (fun b hb => hb)⟩
  match vs, hvs with
  | [v], hvs =>
    simp only [decR] at hvs
    cases hd : decR1 (.one .bool) v h' with
    | none => rw [hd] at hvs; cases hvs
    | some z =>
      rw [hd] at hvs
      cases hvs
      rw [decS_den ρ' hd]; rfl
  | v :: v' :: vs, hvs =>
    simp only [decR] at hvs
    split at hvs <;> cases hvs
end
end Go.Proofs.Ytbmapmigiokbcaa.Ax
