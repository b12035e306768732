/- (*timeline.Line).find, At, Len: the place of a day. -/
import Derived.Test.YtbmapmigiokbcaaTlAll
import Derived.Test.YtbmapmigiokbcaaX1
import Derived.Test.YtbmapmigiokbcaaX2
namespace Go.Proofs.Ytbmapmigiokbcaa.Print
open Go Go.RowKit Go.Shelf Go.Proofs.YtbmapmigiokbcaaW.PrintWords Go.Proofs.YtbmapmigiokbcaaW.PrintLast Go.Proofs.YtbmapmigiokbcaaW.PrintMore
set_option linter.unusedVariables false
set_option linter.unusedSimpArgs false
attribute [local go_sem] Oper.semAt_some
theorem mixed : Try.prog.follows .mixedOrders = true := by kernel_rfl
def rightB (a b : Int) : Bool := decide (0 ≤ a) && (decide (b ≤ 2932896) && decide (a ≤ b))
theorem pro_right (a b : Int) : timeline_Span_right.f a b = some (rightB a b) := by
  unfold timeline_Span_right.f rightB
  by_cases h1 : a ≥ 0
  · by_cases h2 : b ≤ 2932896
    · rw [if_pos h1, if_pos h2, decide_eq_true (show 0 ≤ a from h1), decide_eq_true h2]; rfl
    · rw [if_pos h1, if_neg h2, decide_eq_true (show 0 ≤ a from h1), decide_eq_false h2]; rfl
  · rw [if_neg h1, decide_eq_false (show ¬ 0 ≤ a from h1)]; rfl
def daysV (a b : Int) : Int := wrap64 (wrap64 (b - a) + 1)
def meetV (a b c d : Int) : Int × Int × Bool := bif rightB a b && (rightB c d && rightB (mx a c) (mn b d)) then (mx a c, mn b d, true) else (0, 0, false)
theorem pro_meet (a b c d : Int) : timeline_Meet.f 1 a b c d = some (meetV a b c d) := by
  unfold timeline_Meet.f meetV
  simp only [pro_right, Option.bind_some, timeline_Meet.j0]
  cases rightB a b <;> cases rightB c d <;> cases rightB (mx a c) (mn b d) <;> rfl
def Bx (W : World) (B : Nat) (cs : Array Value) (t : TypeId) : Prop := W.heap[B]? = some (.cells cs t (0, 0))
theorem Bx.lt {W : World} {B : Nat} {cs : Array Value} {t : TypeId} (h : Bx W B cs t) : B < W.heap.size := (Array.getElem?_eq_some_iff.1 h).1
theorem Bx.cell {W : World} {B : Nat} {cs : Array Value} {t : TypeId} (h : Bx W B cs t) (j : Nat) : W.cell? ⟨B, j, none⟩ = cs[j]? := by simp [World.cell?, show W.heap[B]? = _ from h]
theorem Bx.frozen {W : World} {B : Nat} {cs : Array Value} {t : TypeId} (h : Bx W B cs t) (j : Nat) : W.frozen? ⟨B, j, none⟩ = false := by simp [World.frozen?, show W.heap[B]? = _ from h]
theorem Bx.new (W : World) (cs : Array Value) (t : TypeId) : Bx (W.alloc (.cells cs t)) W.heap.size cs t := World.alloc_heap_new W _
theorem Bx.alloc {W : World} {B : Nat} {cs : Array Value} {t : TypeId} (h : Bx W B cs t) (o : Obj) : Bx (W.alloc o) B cs t := (Below.heap_alloc W o B h.lt).trans h
theorem Bx.below {W W' : World} {B n : Nat} {cs : Array Value} {t : TypeId} (h : Bx W B cs t) (hb : Below n W W') (hn : B < n) : Bx W' B cs t := (hb.block B hn).trans h
theorem Bx.set {W : World} {B : Nat} {v : Value} {t : TypeId} (h : Bx W B #[v] t) (u : Value) : Bx (W.setCell ⟨B, 0, none⟩ u) B #[u] t := Boxed.set u h
theorem Bx.other {W : World} {B B' : Nat} {cs : Array Value} {t : TypeId} (h : Bx W B cs t) (hne : B ≠ B') (u : Value) : Bx (W.setCell ⟨B', 0, none⟩ u) B cs t := by
  have hg := grownBy_setCell' W B' u
  exact (hg.block B h.lt (fun e => hne (by cases e; rfl))).trans h
theorem bx_own {β : Type} (B : Nat) (t : TypeId) (f : β → Array Value) : Own (fun s W => Bx W B (f s) t) := by
  intro s W W' row h hg hr
  refine (hg.block B h.lt (fun e => ?_)).trans h
  obtain ⟨o, ho, hc⟩ := hr B e.symm
  rw [show W.heap[B]? = _ from h] at ho
  cases ho
  cases hc
theorem keeps_below {W W' : World} (h : Below W.heap.size W W') (B : Nat) : KeepsFrom B W W' :=
  ⟨h.size, fun k o _ hk _ => (h.block k (Array.getElem?_eq_some_iff.1 hk).1).trans hk⟩
def sameS (s : Int × Int) (x : HV) : Bool := x.1 == s.1 && x.2.1 == s.2
def gapStep (s : Int × Int) (n : Int) (x : HV) : Int := bif (meetV x.1 x.2.1 s.1 s.2).2.2 then wrap64 (n - daysV (meetV x.1 x.2.1 s.1 s.2).1 (meetV x.1 x.2.1 s.1 s.2).2.1) else n
def gapV (s : Int × Int) (zs : List HV) : Int := bif rightB s.1 s.2 then (bif zs.any (sameS s) then 0 else zs.foldl (gapStep s) (daysV s.1 s.2)) else 0
set_option maxRecDepth 100000 in
set_option maxHeartbeats 4000000 in
theorem gap_in (T : Nat) (sv : Value) (most : Int) (hm : most ≠ 0) (s0 s1 : Int) (zs : List HV) (hreach : zs.length ≤ 1000000000) (w : World) (hT : T < w.heap.size)
    (hl : w.cell? ⟨T, 0, none⟩ = some sv) (hmost : w.cell? ⟨T, 1, none⟩ = some (.int .i64 most)) (hI : RowAt w.heap.size w sv zs) :
    CallsIn Fence.wide 9 Try.prog 17 #[.pointer (some ⟨T, 0, none⟩), .agg #[.int .i64 s0, .int .i64 s1]] w fun e W' => e = .returned (.int .i64 (gapV (s0, s1) zs)) ∧ Below w.heap.size w W' := by
  have hmix := mixed
  refine callsIn_of_wp_marks Try.func17 rfl trivial ?_ rfl
  simp only [Try.ntmps17, List.size_toArray, List.length_cons, List.length_nil, Nat.reduceAdd, Nat.reduceSub, Array.replicate_succ, Array.replicate_zero, List.push_toArray, List.append_toArray, List.nil_append, List.cons_append]
  obtain ⟨w1, hw1⟩ : ∃ w1, w1 = (w.alloc (.cells #[.int .i64 s0, .int .i64 s1] 23)).alloc (.cells #[.int .i64 0] 3) := ⟨_, rfl⟩
  have hB1 : Below w.heap.size w w1 := by rw [hw1]; exact ((Below.refl _ w).alloc (Nat.le_refl _) _).alloc (by simp) _
  have bS1 : Bx w1 w.heap.size #[.int .i64 s0, .int .i64 s1] 23 := by rw [hw1]; exact (Bx.new w _ _).alloc _
  have bR1 : Bx w1 (w.heap.size + 1) #[.int .i64 0] 3 := by
    rw [hw1]
    have := Bx.new (w.alloc (.cells #[.int .i64 s0, .int .i64 s1] 23)) #[.int .i64 0] 3
    rwa [World.size_alloc] at this
  have hm1 : w1.cell? ⟨T, 1, none⟩ = some (.int .i64 most) := (hB1.cell (p := ⟨T, 1, none⟩) hT).trans hmost
  have hz1 : w1.heap.size = w.heap.size + 2 := by rw [hw1]; simp
  have pack : ∀ w2, Below w1.heap.size w1 w2 → Below w.heap.size w w2 ∧ w1.heap.size ≤ w2.heap.size ∧ Bx w2 w.heap.size #[.int .i64 s0, .int .i64 s1] 23 ∧ Bx w2 (w.heap.size + 1) #[.int .i64 0] 3
      ∧ w2.cell? ⟨w.heap.size, 0, none⟩ = some (.int .i64 s0) ∧ w2.cell? ⟨w.heap.size, 1, none⟩ = some (.int .i64 s1) ∧ w2.cell? ⟨w.heap.size + 1, 0, none⟩ = some (.int .i64 0) ∧ w2.frozen? ⟨w.heap.size + 1, 0, none⟩ = false := by
    intro w2 hb2
    have bS2 := bS1.below hb2 (by omega)
    have bR2 := bR1.below hb2 (by omega)
    exact ⟨hB1.trans (hb2.mono (by omega)), hb2.size, bS2, bR2, by rw [bS2.cell]; rfl, by rw [bS2.cell]; rfl, by rw [bR2.cell]; rfl, bR2.frozen _⟩
  rw [hw1] at hm1 pack
  cases hrt : rightB s0 s1
  · gi_wp2_with (first | (refine ⟨trivial, ?_⟩; gi_at_call 21; refine (callsIn_wide.2 (none_line T most _ hm hm1)).mono ?_; rintro e w' ⟨rfl, hww⟩; rw [hww]; clear hww w') | (refine ⟨trivial, ?_⟩; gi_at_call 19; refine (callsIn_wide.2 (timeline_Span_right.calls _ _ _ _ (pro_right _ _))).mono ?_; rintro e w2 ⟨rfl, hb2⟩; rw [hrt]; obtain ⟨hB2, hs2, bS2, bR2, cS0, cS1, cR0, fR0⟩ := pack w2 hb2; clear hb2))
    refine ⟨.int .i64 0, ?_, ?_, (hB2.setCell (p := ⟨w.heap.size + 1, 0, none⟩) (by simp) _)⟩
    · have hc := (bR2.set (.int .i64 0)).cell 0
      simp [results, Try.f17, go_sem, hc]
    · simp [gapV, hrt]
  · have pack3 : ∀ w2 w3, Below w.heap.size w w2 → w1.heap.size ≤ w2.heap.size → Bx w2 w.heap.size #[.int .i64 s0, .int .i64 s1] 23 → Bx w2 (w.heap.size + 1) #[.int .i64 0] 3 → Below w2.heap.size w2 w3 →
        Below w.heap.size w w3 ∧ w1.heap.size ≤ w3.heap.size ∧ Bx w3 w.heap.size #[.int .i64 s0, .int .i64 s1] 23 ∧ Bx w3 (w.heap.size + 1) #[.int .i64 0] 3 := by
      intro w2 w3 hB2 hs2 bS2 bR2 hb3
      exact ⟨hB2.trans (hb3.mono (by omega)), Nat.le_trans hs2 hb3.size, bS2.below hb3 (by omega), bR2.below hb3 (by omega)⟩
    rw [hw1] at pack3
    gi_wp2_with (first | (refine ⟨trivial, ?_⟩; gi_at_call 21; refine (callsIn_wide.2 (none_line T most _ hm hm1)).mono ?_; rintro e w' ⟨rfl, hww⟩; rw [hww]; clear hww w') | (refine ⟨trivial, ?_⟩; gi_at_call 19; refine (callsIn_wide.2 (timeline_Span_right.calls _ _ _ _ (pro_right _ _))).mono ?_; rintro e w2 ⟨rfl, hb2⟩; rw [hrt]; obtain ⟨hB2, hs2, bS2, bR2, cS0, cS1, cR0, fR0⟩ := pack w2 hb2; clear hb2) | (refine ⟨trivial, ?_⟩; gi_at_call 28; refine (callsIn_wide.2 (timeline_Span_days.calls _ _ _ _ rfl)).mono ?_; rintro e w3 ⟨rfl, hb3⟩; obtain ⟨hB3, hs3, bS3, bR3⟩ := pack3 w2 w3 hB2 hs2 bS2 bR2 hb3) | (refine ⟨trivial, ?_⟩; gi_at_call 26; refine (callsIn_wide.2 (all_line _ _)).mono ?_; rintro e w4 ⟨rfl, hww⟩; rw [hww]; clear hww w4))
    have hs3' : w.heap.size + 2 ≤ w3.heap.size := by simpa using hs3
    obtain ⟨W0, hW0⟩ : ∃ W0, (w3.alloc (.cells #[.int .i64 (wrap64 (wrap64 (s1 - s0) + 1))] 3)).alloc (.cells #[.pointer (some ⟨T, 0, none⟩)] 32) = W0 := ⟨_, rfl⟩
    have hz0 : W0.heap.size = w3.heap.size + 2 := by rw [← hW0]; simp
    have hB0 : Below w.heap.size w W0 := by rw [← hW0]; exact (hB3.alloc (by omega) _).alloc (by simp; omega) _
    have bS0 : Bx W0 w.heap.size #[.int .i64 s0, .int .i64 s1] 23 := by rw [← hW0]; exact (bS3.alloc _).alloc _
    have bR0 : Bx W0 (w.heap.size + 1) #[.int .i64 0] 3 := by rw [← hW0]; exact (bR3.alloc _).alloc _
    have bN0 : Bx W0 w3.heap.size #[.int .i64 (daysV s0 s1)] 3 := by rw [← hW0]; exact (Bx.new w3 _ _).alloc _
    have bL0 : Bx W0 (w3.heap.size + 1) #[.pointer (some ⟨T, 0, none⟩)] 32 := by
      rw [← hW0]
      have := Bx.new (w3.alloc (.cells #[.int .i64 (wrap64 (wrap64 (s1 - s0) + 1))] 3)) #[.pointer (some ⟨T, 0, none⟩)] 32
      rwa [World.size_alloc] at this
    rw [hW0]
    clear hW0
    have cL0 := bL0.cell 0
    refine wpIn_rangeFunc_ownH rfl (by decide) (gf := 33) (lb := #[.pointer (some ⟨w3.heap.size + 1, 0, none⟩)]) rfl trivial (enters_of Try.func33 (by kernel_rfl) rfl)
      (all_stops 8 (by decide) (w3.heap.size + 1) T w.heap.size sv most hm zs hreach W0 (by omega) (by omega) (by omega) cL0 ((hB0.cell (p := ⟨T, 0, none⟩) hT).trans hl) ((hB0.cell (p := ⟨T, 1, none⟩) hT).trans hmost) (hI.below hB0)) belowK_t (belowK_b (by omega)) (Below.refl _ _) (fun _ => rfl)
      (fun pre W => (Bx W w.heap.size #[.int .i64 s0, .int .i64 s1] 23 ∧ Bx W (w.heap.size + 1) #[.int .i64 0] 3 ∧ Bx W w3.heap.size #[.int .i64 (pre.foldl (gapStep (s0, s1)) (daysV s0 s1))] 3 ∧ pre.any (sameS (s0, s1)) = false) ∧ Below w.heap.size w W)
      (fun c pre W => (c = .ret ∧ pre.any (sameS (s0, s1)) = true ∧ Bx W (w.heap.size + 1) #[.int .i64 0] 3) ∧ Below w.heap.size w W)
      (OwnFrom.and (Own.from (fun s A B row hs hg hr => ⟨bx_own w.heap.size 23 (fun _ : Unit => #[.int .i64 s0, .int .i64 s1]) () A B row hs.1 hg hr, bx_own (w.heap.size + 1) 3 (fun _ : Unit => #[.int .i64 0]) () A B row hs.2.1 hg hr, bx_own w3.heap.size 3 (fun pre : List HV => #[.int .i64 (pre.foldl (gapStep (s0, s1)) (daysV s0 s1))]) s A B row hs.2.2.1 hg hr, hs.2.2.2⟩) _) (ownFrom_below (Nat.le_refl _) (by omega)))
      (fun c => OwnFrom.and (Own.from (fun s A B row hs hg hr => ⟨hs.1, hs.2.1, bx_own (w.heap.size + 1) 3 (fun _ : Unit => #[.int .i64 0]) () A B row hs.2.2 hg hr⟩) _) (ownFrom_below (Nat.le_refl _) (by omega)))
      ⟨⟨bS0, bR0, bN0, rfl⟩, hB0⟩
      (fun x a' W => ∃ Bx', w3.heap.size < Bx' ∧ Bx W Bx' #[.int .i64 x.1, .int .i64 x.2.1] 23 ∧ a' = { tmps := #[.pointer (some ⟨T, 0, none⟩), .agg #[.int .i64 s0, .int .i64 s1], undef, .pointer (some ⟨w.heap.size, 0, none⟩), .pointer (some ⟨w.heap.size + 1, 0, none⟩), .pointer (some ⟨w3.heap.size, 0, none⟩), .pointer (some ⟨Bx', 0, none⟩), undef, undef, .pointer (some ⟨T, 0, none⟩), .bool false, .bool false, .agg #[.int .i64 s0, .int .i64 s1], .bool true, .bool false, .bool false, .agg #[.int .i64 s0, .int .i64 s1], .int .i64 (wrap64 (wrap64 (s1 - s0) + 1)), .pointer (some ⟨T, 0, none⟩), .func (.func 33) #[] #[.pointer (some ⟨w3.heap.size + 1, 0, none⟩)], .agg #[.int .i64 x.1, .int .i64 x.2.1], .int .i64 x.2.2, undef, undef, undef, undef, undef, undef, undef, undef, undef, undef, undef, undef, undef, undef, undef], defers := [] })
      (fun x a' _ X Y row hs hg hr => by obtain ⟨Bx', h1, h2, h3⟩ := hs; exact ⟨Bx', h1, bx_own Bx' 23 (fun (_ : Unit) => #[.int .i64 x.1, .int .i64 x.2.1]) () X Y row h2 hg (fun r e => (hr r e).2), h3⟩)
      ?assign ?body ?done ?stop
    case assign =>
      rintro l pre x W K ⟨⟨bS1, bR1, bN1, hp⟩, hB1⟩ hK
      simp only [encH]
      gi_wp2
      exact hK _ _ ((KeepsOthers.alloc _ _).from _) ((Below.refl _ W).alloc hB1.size _) ⟨⟨bS1.alloc _, bR1.alloc _, bN1.alloc _, hp⟩, hB1.alloc hB1.size _⟩ ⟨W.heap.size, bN1.lt, Bx.new W _ _, rfl⟩
    case body =>
      rintro l pre ⟨x0, x1, xv⟩ a' W hlW ⟨r, hr⟩ ⟨⟨bS1, bR1, bN1, hp⟩, hB1⟩ ⟨Bx', hBx, bX, rfl⟩ hlt
      dsimp only at bX ⊢
      have cX0 : W.cell? ⟨Bx', 0, none⟩ = some (.int .i64 x0) := by rw [bX.cell]; rfl
      have cX1 : W.cell? ⟨Bx', 1, none⟩ = some (.int .i64 x1) := by rw [bX.cell]; rfl
      have cS0 : W.cell? ⟨w.heap.size, 0, none⟩ = some (.int .i64 s0) := by rw [bS1.cell]; rfl
      have cS1 : W.cell? ⟨w.heap.size, 1, none⟩ = some (.int .i64 s1) := by rw [bS1.cell]; rfl
      have cR0 : W.cell? ⟨w.heap.size + 1, 0, none⟩ = some (.int .i64 0) := by rw [bR1.cell]; rfl
      have fR0 := bR1.frozen 0
      have hsW := hB1.size
      by_cases hs : x0 = s0 ∧ x1 = s1
      · obtain ⟨rfl, rfl⟩ := hs
        gi_wp2
        exact ⟨(KeepsOthers.setCell _ _ _).from _, ⟨rfl, by simp [sameS], bR1.set _⟩, hB1.setCell (p := ⟨w.heap.size + 1, 0, none⟩) (by simp) _⟩
      · have hns : sameS (s0, s1) (x0, x1, xv) = false := by
          simp only [sameS]
          by_cases h0 : x0 = s0
          · by_cases h1 : x1 = s1
            · exact absurd ⟨h0, h1⟩ hs
            · simp [h1]
          · simp [h0]
        obtain ⟨m0, m1, mb, hmv⟩ : ∃ m0 m1 mb, meetV x0 x1 s0 s1 = (m0, m1, mb) := ⟨_, _, _, rfl⟩
        cases mb
        · gi_wp2_with (refine ⟨trivial, ?_⟩; gi_at_call 6; refine (CallsIn.inRound l (callsIn_wide.2 (timeline_Meet.calls 1 _ _ _ _ m0 m1 false _ (by first | exact (pro_meet _ _ _ _).trans (congrArg some hmv) | (have h0 : x0 = s0 := (by assumption); rw [h0] at hmv; exact (pro_meet _ _ _ _).trans (congrArg some hmv)))))).mono ?_; rintro e w5 ⟨rfl, hb5⟩; have bN5 := bN1.below hb5 bN1.lt; have bR5 := bR1.below hb5 bR1.lt; have bS5 := bS1.below hb5 bS1.lt; have cN5 := bN5.cell 0; have fN5 := bN5.frozen 0)
          all_goals
            have hs5 : W.heap.size ≤ w5.heap.size := hb5.size
            exact ⟨(keeps_below hb5 _).trans ((KeepsOthers.alloc _ _).from _), (hb5.mono (by omega)).alloc (by omega) _, ⟨bS5.alloc _, bR5.alloc _, by rw [List.foldl_append]; simpa [gapStep, hmv] using bN5.alloc _, by rw [List.any_append, hp]; simp [hns]⟩, (hB1.trans (hb5.mono (by omega))).alloc (by omega) _⟩
        · gi_wp2_with (first | (refine ⟨trivial, ?_⟩; gi_at_call 6; refine (CallsIn.inRound l (callsIn_wide.2 (timeline_Meet.calls 1 _ _ _ _ m0 m1 true _ (by first | exact (pro_meet _ _ _ _).trans (congrArg some hmv) | (have h0 : x0 = s0 := (by assumption); rw [h0] at hmv; exact (pro_meet _ _ _ _).trans (congrArg some hmv)))))).mono ?_; rintro e w5 ⟨rfl, hb5⟩; have bN5 := bN1.below hb5 bN1.lt; have bR5 := bR1.below hb5 bR1.lt; have bS5 := bS1.below hb5 bS1.lt; have cN5 := bN5.cell 0; have fN5 := bN5.frozen 0))
          all_goals
            have hs5 : W.heap.size ≤ w5.heap.size := hb5.size
            have hl5 : w3.heap.size < w5.heap.size := bN5.lt
            have cM0 : (w5.alloc (.cells #[.int .i64 m0, .int .i64 m1] 23)).cell? ⟨w5.heap.size, 0, none⟩ = some (.int .i64 m0) := by rw [(Bx.new w5 _ _).cell]; rfl
            have cM1 : (w5.alloc (.cells #[.int .i64 m0, .int .i64 m1] 23)).cell? ⟨w5.heap.size, 1, none⟩ = some (.int .i64 m1) := by rw [(Bx.new w5 _ _).cell]; rfl
            have pack6 : ∀ w6, Below (w5.alloc (.cells #[.int .i64 m0, .int .i64 m1] 23)).drew.heap.size (w5.alloc (.cells #[.int .i64 m0, .int .i64 m1] 23)).drew w6 →
                w6.cell? ⟨w3.heap.size, 0, none⟩ = some (.int .i64 (List.foldl (gapStep (s0, s1)) (daysV s0 s1) pre)) ∧ w6.frozen? ⟨w3.heap.size, 0, none⟩ = false ∧ Bx w6 w3.heap.size #[.int .i64 (List.foldl (gapStep (s0, s1)) (daysV s0 s1) pre)] 3 ∧ Bx w6 (w.heap.size + 1) #[.int .i64 0] 3 ∧ Bx w6 w.heap.size #[.int .i64 s0, .int .i64 s1] 23 ∧ W.heap.size ≤ w6.heap.size ∧ Below w.heap.size W w6 ∧ KeepsFrom W0.heap.size W w6 := by
              intro w6 hb6
              have hz : (w5.alloc (.cells #[.int .i64 m0, .int .i64 m1] 23)).drew.heap.size = w5.heap.size + 1 := by simp [World.drew]
              have bN : Bx (w5.alloc (.cells #[.int .i64 m0, .int .i64 m1] 23)).drew w3.heap.size #[.int .i64 (List.foldl (gapStep (s0, s1)) (daysV s0 s1) pre)] 3 := bN5.alloc _
              have bR : Bx (w5.alloc (.cells #[.int .i64 m0, .int .i64 m1] 23)).drew (w.heap.size + 1) #[.int .i64 0] 3 := bR5.alloc _
              have bS : Bx (w5.alloc (.cells #[.int .i64 m0, .int .i64 m1] 23)).drew w.heap.size #[.int .i64 s0, .int .i64 s1] 23 := bS5.alloc _
              have bN' := bN.below hb6 bN.lt
              exact ⟨by rw [bN'.cell]; rfl, bN'.frozen _, bN', bR.below hb6 bR.lt, bS.below hb6 bS.lt, by have := hb6.size; omega, (((hb5.mono (by omega)).alloc (by omega) _).drew).trans (hb6.mono (by omega)),
                (((keeps_below hb5 _).trans ((KeepsOthers.alloc _ _).from _)).trans ((KeepsOthers.drew _).from _)).trans (keeps_below hb6 _)⟩
            gi_region_with_o (refine ⟨trivial, ?_⟩; gi_at_call 28; refine (CallsIn.inRound l (callsIn_wide.2 (timeline_Span_days.calls m0 m1 _ _ rfl))).mono ?_; rintro e w6 ⟨rfl, hb6⟩; obtain ⟨cN6, fN6, bN6, bR6, bS6, hs6, hB6, hK6⟩ := pack6 w6 hb6)
          all_goals gi_wp2
          all_goals (try go_bits)
          all_goals
            exact ⟨hK6.trans ((KeepsOthers.setCell _ _ _).from _), hB6.setCell (p := ⟨w3.heap.size, 0, none⟩) (by simp; omega) _, ⟨bS6.other (by omega) _, bR6.other (by omega) _, by rw [List.foldl_append]; simpa [gapStep, hmv, daysV] using bN6.set _, by rw [List.any_append, hp]; simp [hns]⟩, (hB1.trans hB6).setCell (p := ⟨w3.heap.size, 0, none⟩) (by simp; omega) _⟩
    case done =>
      rintro D ys W hD rfl ⟨⟨bS1, bR1, bN1, hp⟩, hB1⟩ hK
      have cN1 := bN1.cell 0
      have cR1 := bR1.cell 0
      have fR1 := bR1.frozen 0
      gi_wp2
      have hK' := (KeepsOthers.setCell W ⟨w.heap.size + 1, 0, none⟩ (.int .i64 (ys.foldl (gapStep (s0, s1)) (daysV s0 s1)))).same D _ hK rfl
      refine ⟨by simp, .inl ⟨_, _, rfl, run_takeDeferred hK', ?_⟩⟩
      have hc5 := cell_kept (World.cell?_setCell_same' W ⟨w.heap.size + 1, 0, none⟩ (.int .i64 (ys.foldl (gapStep (s0, s1)) (daysV s0 s1))) (by rw [cR1]; rfl)) (grownBy_putObj' _ D (.deferred none)) (fun r e => by cases e; exact ⟨_, hK', rfl⟩)
      refine ⟨.int .i64 (ys.foldl (gapStep (s0, s1)) (daysV s0 s1)), ?_, by simp [gapV, hrt, hp], (hB1.setCell (p := ⟨w.heap.size + 1, 0, none⟩) (by simp) _).trans (belowK_b (w := w) (Nat.le_refl _) _ D _ _ (by omega) hK' rfl rfl)⟩
      simp [results, Try.f17, go_sem, hc5]
    case stop =>
      rintro D c pre W hD hpre ⟨⟨rfl, hany, bR1⟩, hB1⟩ hK
      gi_wp2
      refine ⟨by simp, .inl ⟨_, _, rfl, run_takeDeferred hK, ?_⟩⟩
      have hc5 := cell_kept ((bR1.cell 0).trans rfl) (grownBy_putObj' _ D (.deferred none)) (fun r e => by cases e; exact ⟨_, hK, rfl⟩)
      refine ⟨.int .i64 0, ?_, ?_, hB1.trans (belowK_b (w := w) (Nat.le_refl _) W D _ _ (by omega) hK rfl rfl)⟩
      · simp [results, Try.f17, go_sem, hc5]
      · have : zs.any (sameS (s0, s1)) = true := by
          obtain ⟨x, hx, hs⟩ := List.any_eq_true.1 hany
          exact List.any_eq_true.2 ⟨x, hpre.subset hx, hs⟩
        simp [gapV, hrt, this]
end Go.Proofs.Ytbmapmigiokbcaa.Print
namespace Go.Proofs.Ytbmapmigiokbcaa.Print
open Go Go.RowKit Go.Shelf Go.Proofs.YtbmapmigiokbcaaW.PrintWords Go.Proofs.YtbmapmigiokbcaaW.PrintLast Go.Proofs.YtbmapmigiokbcaaW.PrintMore
set_option linter.unusedVariables false
set_option linter.unusedSimpArgs false
def cmpV (b d : Int) : Int := bif decide (b < d) then -1 else 1
set_option maxRecDepth 100000 in
set_option maxHeartbeats 2000000 in
theorem cmp_any (a b x d : Int) (w : World) : Calls Try.prog 30 #[.agg #[.int .i64 a, .int .i64 b, .int .i64 x], .int .i64 d] w fun e w' => e = .returned (.int .i64 (cmpV b d)) ∧ Below w.heap.size w w' := by
  go_enter Try.func30, Try.ntmps30
  go_wp2
  all_goals
    go_ret
    refine ⟨?_, (Below.refl _ w).alloc (Nat.le_refl _) _⟩
    simp [cmpV, *]
  all_goals
    have : decide (b < d) = false := decide_eq_false (by omega)
    simp [this]
def bsF : Nat → List HV → Int → Nat → Nat → Nat
  | 0, _, _, i, _ => i
  | f + 1, zs, d, i, j => bif Nat.blt i j then (bif decide ((zs[(i + j) / 2]?.getD (0, 0, 0)).2.1 < d) then bsF f zs d ((i + j) / 2 + 1) j else bsF f zs d i ((i + j) / 2)) else i
def findV (zs : List HV) (d : Int) : Nat := bsF zs.length zs d 0 zs.length
theorem bsF_end (f : Nat) (zs : List HV) (d : Int) (i : Nat) : bsF f zs d i i = i := by
  cases f with
  | zero => rfl
  | succ f =>
    have : Nat.blt i i = false := by cases h : Nat.blt i i with | false => rfl | true => exact absurd (Nat.le_of_ble_eq_true h : i + 1 ≤ i) (Nat.lt_irrefl _)
    simp [bsF, this]
theorem cmpV_no (b d : Int) : cmpV b d ≠ 0 := by unfold cmpV; cases decide (b < d) <;> decide
set_option maxRecDepth 100000 in
set_option maxHeartbeats 4000000 in
theorem bs_line (b cap : Nat) (zs : List HV) (d : Int) (hreach : zs.length ≤ 1000000000) (w : World) (hb : b < w.heap.size)
    (hc : ∀ j, j < zs.length → w.cell? ⟨b, j * 3, none⟩ = some (.int .i64 (zs[j]?.getD (0, 0, 0)).1) ∧ w.cell? ⟨b, j * 3 + 1, none⟩ = some (.int .i64 (zs[j]?.getD (0, 0, 0)).2.1) ∧ w.cell? ⟨b, j * 3 + 2, none⟩ = some (.int .i64 (zs[j]?.getD (0, 0, 0)).2.2)) :
    Calls Try.prog 29 #[.slice (some ⟨b, 0, none⟩) zs.length cap, .int .i64 d, .func (.func 30) #[] #[]] w fun e w' => e = .returned (.tuple #[.int .i64 (findV zs d), .bool false]) ∧ Below w.heap.size w w' := by
  go_enter Try.func29, Try.ntmps29
  go_wp2
  go_loopw [9, 10] (fun i j wr => ∃ i' j' f : Nat, i = .int .i64 i' ∧ j = .int .i64 j' ∧ i' ≤ j' ∧ j' ≤ zs.length ∧ j' - i' ≤ f ∧ bsF f zs d i' j' = findV zs d ∧ Below w.heap.size w wr)
    (fun i j _ => (intOf j).toNat - (intOf i).toNat)
  case atStart => exact ⟨0, zs.length, zs.length, rfl, rfl, Nat.zero_le _, Nat.le_refl _, Nat.le_refl _, rfl, Below.refl _ _⟩
  case round =>
    obtain ⟨i', j', f, rfl, rfl, hij, hjl, hf, hR, hB⟩ := hrel
    by_cases hlt : i' < j'
    · obtain ⟨f, rfl⟩ : ∃ f', f = f' + 1 := ⟨f - 1, by omega⟩
      have hbl : Nat.blt i' j' = true := Nat.ble_eq_true_of_le hlt
      obtain ⟨c0, c1, c2⟩ := hc ((i' + j') / 2) (by omega)
      have d0 := (hB.cell (p := ⟨b, (i' + j') / 2 * 3, none⟩) hb).trans c0
      have d1 := (hB.cell (p := ⟨b, (i' + j') / 2 * 3 + 1, none⟩) hb).trans c1
      have d2 := (hB.cell (p := ⟨b, (i' + j') / 2 * 3 + 2, none⟩) hb).trans c2
      obtain ⟨za, zb, zx, hz⟩ : ∃ za zb zx, zs[(i' + j') / 2]?.getD (0, 0, 0) = (za, zb, zx) := ⟨_, _, _, rfl⟩
      rw [hz] at d0 d1 d2
      dsimp only at d0 d1 d2
      cases hcm : decide (zb < d) with
      | true =>
        simp only [bsF, hbl, hz, hcm, cond_true] at hR
        have hv : cmpV zb d = -1 := by simp [cmpV, hcm]
        go_wp2_with (go_at_call 30; refine (cmp_any _ _ _ _ _).mono ?_; rintro e w5 ⟨rfl, hb5⟩; rw [hv])
        go_roundw
        case rel =>
          have hhalf : ((i' : Int) + j') / 2 = (((i' + j') / 2 : Nat) : Int) := by omega
          exact ⟨(i' + j') / 2 + 1, j', f, by rw [hhalf]; rfl, rfl, by omega, hjl, by omega, hR, hB.trans (hb5.mono hB.size)⟩
        case measure => simp [intOf]; omega
      | false =>
        simp only [bsF, hbl, hz, hcm, cond_true, cond_false] at hR
        have hv : cmpV zb d = 1 := by simp [cmpV, hcm]
        go_wp2_with (go_at_call 30; refine (cmp_any _ _ _ _ _).mono ?_; rintro e w5 ⟨rfl, hb5⟩; rw [hv])
        go_roundw
        case rel =>
          have hhalf : ((i' : Int) + j') / 2 = (((i' + j') / 2 : Nat) : Int) := by omega
          exact ⟨i', (i' + j') / 2, f, rfl, by rw [hhalf], by omega, by omega, by omega, hR, hB.trans (hb5.mono hB.size)⟩
        case measure => simp [intOf]; omega
    · obtain rfl : i' = j' := by omega
      rw [bsF_end] at hR
      subst hR
      by_cases hlt : findV zs d < zs.length
      · obtain ⟨c0, c1, c2⟩ := hc (findV zs d) hlt
        have d0 := (hB.cell (p := ⟨b, findV zs d * 3, none⟩) hb).trans c0
        have d1 := (hB.cell (p := ⟨b, findV zs d * 3 + 1, none⟩) hb).trans c1
        have d2 := (hB.cell (p := ⟨b, findV zs d * 3 + 2, none⟩) hb).trans c2
        obtain ⟨za, zb, zx, hz⟩ : ∃ za zb zx, zs[findV zs d]?.getD (0, 0, 0) = (za, zb, zx) := ⟨_, _, _, rfl⟩
        rw [hz] at d0 d1 d2
        dsimp only at d0 d1 d2
        have hv : (cmpV zb d == 0) = false := by simpa using cmpV_no zb d
        go_wp2_with (go_at_call 30; refine (cmp_any _ _ _ _ _).mono ?_; rintro e w5 ⟨rfl, hb5⟩)
        go_ret2
        exact ⟨by simp [hv], hB.trans (hb5.mono hB.size)⟩
      · go_wp2
        go_ret2
        exact ⟨rfl, hB⟩
set_option maxRecDepth 100000 in
set_option maxHeartbeats 4000000 in
theorem bs_nil (d : Int) (w : World) :
    Calls Try.prog 29 #[.slice none 0 0, .int .i64 d, .func (.func 30) #[] #[]] w fun e w' => e = .returned (.tuple #[.int .i64 0, .bool false]) ∧ Below w.heap.size w w' := by
  go_enter Try.func29, Try.ntmps29
  go_wp2
  go_loopw [9, 10] (fun i j wr => i = .int .i64 0 ∧ j = .int .i64 0 ∧ wr = w) (fun i j _ => 0)
  case atStart => exact ⟨rfl, rfl, rfl⟩
  case round =>
    obtain ⟨rfl, rfl, rfl⟩ := hrel
    go_wp2
    go_ret2
    exact ⟨rfl, Below.refl _ _⟩
theorem bs_any (zs : List HV) (d : Int) (hreach : zs.length ≤ 1000000000) (w : World) (sv : Value) (hI : RowAt w.heap.size w sv zs) :
    Calls Try.prog 29 #[sv, .int .i64 d, .func (.func 30) #[] #[]] w fun e w' => e = .returned (.tuple #[.int .i64 (findV zs d), .bool false]) ∧ Below w.heap.size w w' := by
  rcases hI with ⟨rfl, rfl⟩ | ⟨b, cap, rfl, hb, hc⟩
  · exact bs_nil d w
  · exact bs_line b cap zs d hreach w hb hc
set_option maxRecDepth 100000 in
set_option maxHeartbeats 4000000 in
theorem find_line (T : Nat) (sv : Value) (zs : List HV) (d : Int) (hreach : zs.length ≤ 1000000000) (w : World) (hl : w.cell? ⟨T, 0, none⟩ = some sv) (hI : RowAt w.heap.size w sv zs) :
    Calls Try.prog 22 #[.pointer (some ⟨T, 0, none⟩), .int .i64 d] w fun e w' => e = .returned (.int .i64 (findV zs d)) ∧ Below w.heap.size w w' := by
  go_enter Try.func22, Try.ntmps22
  go_wp2_with (go_at_call 29; refine (bs_any zs d hreach w sv hI).mono ?_; rintro e w2 ⟨rfl, hb2⟩)
  go_ret
  exact ⟨rfl, hb2⟩
set_option maxRecDepth 100000 in
set_option maxHeartbeats 4000000 in
theorem len_line (T : Nat) (sv : Value) (most : Int) (hm : most ≠ 0) (zs : List HV) (w : World) (hl : w.cell? ⟨T, 0, none⟩ = some sv) (hmost : w.cell? ⟨T, 1, none⟩ = some (.int .i64 most)) (hI : RowAt w.heap.size w sv zs) :
    Calls Try.prog 13 #[.pointer (some ⟨T, 0, none⟩)] w fun e w' => e = .returned (.int .i64 zs.length) ∧ w' = w := by
  rcases hI with ⟨rfl, rfl⟩ | ⟨b, cap, rfl, hb, hc⟩
  all_goals
    go_enter Try.func13, Try.ntmps13
    go_wp2_with (go_at_call 21; refine (none_line T most w hm hmost).mono ?_; rintro e w' ⟨rfl, hww⟩; rw [hww]; clear hww w')
    go_ret
    exact ⟨rfl, rfl⟩
def atV (zs : List HV) (d : Int) : Int × Bool := match zs[findV zs d]? with
  | none => (0, false)
  | some x => bif decide (d < x.1) then (0, false) else (x.2.2, true)
theorem findV_le (zs : List HV) (d : Int) : findV zs d ≤ zs.length := by
  have : ∀ f i j, i ≤ j → j ≤ zs.length → bsF f zs d i j ≤ zs.length := by
    intro f
    induction f with
    | zero => intro i j h1 h2; exact Nat.le_trans h1 h2
    | succ f ih =>
      intro i j h1 h2
      simp only [bsF]
      cases h : Nat.blt i j with
      | false => exact Nat.le_trans h1 h2
      | true =>
        have h : i + 1 ≤ j := Nat.le_of_ble_eq_true h
        cases decide ((zs[(i + j) / 2]?.getD (0, 0, 0)).2.1 < d) with
        | true => exact ih _ _ (by omega) h2
        | false => exact ih _ _ (by omega) (by omega)
  exact this _ _ _ (Nat.zero_le _) (Nat.le_refl _)
set_option maxRecDepth 100000 in
set_option maxHeartbeats 4000000 in
theorem at_line (T : Nat) (sv : Value) (most : Int) (hm : most ≠ 0) (zs : List HV) (d : Int) (hreach : zs.length ≤ 1000000000) (w : World) (hT : T < w.heap.size) (hl : w.cell? ⟨T, 0, none⟩ = some sv) (hmost : w.cell? ⟨T, 1, none⟩ = some (.int .i64 most)) (hI : RowAt w.heap.size w sv zs) :
    Calls Try.prog 12 #[.pointer (some ⟨T, 0, none⟩), .int .i64 d] w fun e w' => e = .returned (.tuple #[.int .i64 (atV zs d).1, .bool (atV zs d).2]) ∧ Below w.heap.size w w' := by
  have hle := findV_le zs d
  have pack : ∀ w2, Below w.heap.size w w2 → w2.cell? ⟨T, 0, none⟩ = some sv ∧ RowAt w.heap.size w2 sv zs := fun w2 h => ⟨(h.cell (p := ⟨T, 0, none⟩) hT).trans hl, hI.below h⟩
  go_enter Try.func12, Try.ntmps12
  by_cases hlt : findV zs d < zs.length
  · obtain ⟨za, zb, zx, hz⟩ : ∃ za zb zx, zs[findV zs d]? = some (za, zb, zx) := ⟨_, _, _, List.getElem?_eq_getElem hlt⟩
    have hI' := hI
    rcases hI' with ⟨rfl, rfl⟩ | ⟨b, cap, rfl, hb, hc⟩
    · exact absurd hlt (Nat.not_lt_zero _)
    · have hcz := hc _ hlt
      rw [hz] at hcz
      simp only [Option.getD_some] at hcz
      have pack2 : ∀ w2, Below w.heap.size w w2 → w2.cell? ⟨b, findV zs d * 3, none⟩ = some (.int .i64 za) ∧ w2.cell? ⟨b, findV zs d * 3 + 2, none⟩ = some (.int .i64 zx) := fun w2 h => ⟨(h.cell (p := ⟨b, findV zs d * 3, none⟩) hb).trans hcz.1, (h.cell (p := ⟨b, findV zs d * 3 + 2, none⟩) hb).trans hcz.2.2⟩
      have hat : atV zs d = bif decide (d < za) then (0, false) else (zx, true) := by unfold atV; rw [hz]
      generalize hfv : findV zs d = n at *
      go_wp2_with (first | (go_at_call 21; refine (none_line T most w hm hmost).mono ?_; rintro e w' ⟨rfl, hww⟩; rw [hww]; clear hww w') | (go_at_call 22; refine (find_line T _ zs d hreach w hl hI).mono ?_; rintro e w2 ⟨rfl, hb2⟩; rw [hfv]; obtain ⟨p1, p2⟩ := pack w2 hb2; obtain ⟨q1, q2⟩ := pack2 w2 hb2))
      all_goals go_ret2
      all_goals refine ⟨?_, hb2⟩
      · rename_i h
        have hd : d < za := by
          rcases h with h | h
          · exfalso; have := eq_of_beq h; omega
          · exact h
        simp [hat, hd]
      · rename_i h
        have hd : decide (d < za) = false := decide_eq_false (by have := h.2; omega)
        simp [hat, hd]
  · have hfv : findV zs d = zs.length := by omega
    have hz : zs[findV zs d]? = none := List.getElem?_eq_none (by omega)
    have hI' := hI
    rcases hI' with ⟨rfl, rfl⟩ | ⟨b, cap, rfl, hb, hc⟩
    all_goals
      go_wp2_with (first | (go_at_call 21; refine (none_line T most w hm hmost).mono ?_; rintro e w' ⟨rfl, hww⟩; rw [hww]; clear hww w') | (go_at_call 22; refine (find_line T _ _ d hreach w hl hI).mono ?_; rintro e w2 ⟨rfl, hb2⟩; rw [hfv]; obtain ⟨p1, p2⟩ := pack w2 hb2))
      go_ret2
      refine ⟨?_, hb2⟩
      simp [atV, hz]
end Go.Proofs.Ytbmapmigiokbcaa.Print
