/- MarginPools. -/
import Derived.Test.YtdhmhdhfgojofaaX0
import Derived.Test.YtdhmhdhfgojofaaAx14
import Derived.Test.YtdhmhdhfgojofaaWideA
import Derived.Test.YtdhmhdhfgojofaaX8
import Derived.Test.YtdhmhdhfgojofaaX10
import Derived.Test.YtdhmhdhfgojofaaAx8
import Derived.Test.YtdhmhdhfgojofaaMoney
import Derived.Test.YtdhmhdhfgojofaaX2
import Derived.Test.YtdhmhdhfgojofaaX3
import Derived.Test.YtdhmhdhfgojofaaX4
import Derived.Test.YtdhmhdhfgojofaaRef01A
import Derived.Test.YtdhmhdhfgojofaaX7
import Derived.Test.YtdhmhdhfgojofaaWideD
namespace Go.Proofs.Ytdhmhdhfgojofaa.Print
open Go.RowKit Go.Proofs.YtdhmhdhfgojofaaW.PrintWords Go.Proofs.YtdhmhdhfgojofaaW.PrintLast Go.Proofs.YtdhmhdhfgojofaaW.PrintMore
attribute [local go_sem] max2_int min2_int max_two min_two max_three min_three max_four min_four   -- for this text's walks alone
set_option linter.unusedVariables false
set_option linter.unusedSimpArgs false
def octroilaw23_plain.l0 : Nat → List (S44) → List (S38) → Int → Int → Option ((List (S44)))
  | 0, _, _, _, _ => none
  | k + 1, x3, x6, x7, x8 => if x8 < x7 then (if 0 ≤ x8 then (if x8 < (x6.length : Int) then (if x3.length < 8796093022208 then (octroilaw23_plain.l0 k (x3 ++ [(⟨(rd_T38 x6 x8).f0, (rd_T38 x6 x8).f1⟩ : S44)]) x6 x7 (wrap64 (x8 + 1))) else (none)) else (none)) else (none)) else (some x3)
def octroilaw23_plain.f (k : Nat) (l0 : List (S38)) : Option ((List (S44))) := octroilaw23_plain.l0 k ([] : List (S44)) l0 (l0.length : Int) 0
theorem octroilaw23_plain.mono_l : ∀ k, (∀ y0 y1 y2 y3, LeO (octroilaw23_plain.l0 k y0 y1 y2 y3) (octroilaw23_plain.l0 (k + 1) y0 y1 y2 y3))
  | 0 => fun _ _ _ _ r h => by simp [octroilaw23_plain.l0] at h
  | k + 1 => by
    have ih0 := octroilaw23_plain.mono_l k
    · intro y0 y1 y2 y3
      unfold octroilaw23_plain.l0
      repeat' first
      | (with_reducible exact ih0 _ _ _ _)
      | (with_reducible exact LeO.refl _)
      | (with_reducible exact LeO.none _)
      | (with_reducible refine LeO.ite ?_ ?_)
      | (with_reducible refine LeO.bind ?_ (fun _ => ?_))
      | exact ih0 _ _ _ _
      | exact LeO.none _
      | refine LeO.ite ?_ ?_
      | refine LeO.bind ?_ (fun _ => ?_)
theorem octroilaw23_plain.mono : ∀ a0 k, LeO (octroilaw23_plain.f k a0) (octroilaw23_plain.f (k + 1) a0) := by
  intro a0 k
  have ih0 := octroilaw23_plain.mono_l k
  unfold octroilaw23_plain.f
  repeat' first
      | (with_reducible exact ih0 _ _ _ _)
      | (with_reducible exact LeO.refl _)
      | (with_reducible exact LeO.none _)
      | (with_reducible refine LeO.ite ?_ ?_)
      | (with_reducible refine LeO.bind ?_ (fun _ => ?_))
      | exact ih0 _ _ _ _
      | exact LeO.none _
      | refine LeO.ite ?_ ?_
      | refine LeO.bind ?_ (fun _ => ?_)
set_option maxHeartbeats 8000000 in
set_option maxRecDepth 100000 in
theorem octroilaw23_plain.calls (k : Nat) (A0 : Option Addr) (c0 : Nat) (l0 : List (S38)) (r : List (S44)) (w : World) (hr0 : Kd.C k38 w A0 l0.length l0) (hc0 : l0.length ≤ c0) (h : octroilaw23_plain.f k l0 = some r) :
    Calls Try.prog 11 #[.slice A0 l0.length c0] w fun e w' => ∃ v0_ : Value, e = .returned (v0_) ∧ Kd.R k44 44 w' w.heap.size (fun _ => True) v0_ r ∧ Below w.heap.size w w' := by
  have hu38 := Try.underlying38
  have HR0 := Aside0.mk hr0
  have HC0 := Aside0.mk hc0
  clear hr0 hc0
  have HB := Aside0.mk (Below.refl w.heap.size w)
  have H : (octroilaw23_plain.l0 k ([] : List (S44)) l0 (l0.length : Int) 0) = some r := h
  clear h
  have H' := Aside0.mk H
  clear H
  go_enter Try.func11, Try.ntmps11
  go_wp2
  go_loopg [3, 8] k (fun kq v3 v8 w' => ∃ (x3_1 : List (S44)) (x8_1 : Int), v8 = .int .i64 x8_1 ∧ Aside0 (octroilaw23_plain.l0 kq x3_1 l0 (l0.length : Int) x8_1 = some r) ∧ Aside0 (kq ≤ k) ∧ Aside0 (Kd.R k44 44 w' w.heap.size (fun _ => True) v3 x3_1) ∧ Aside0 (Below w.heap.size w w'))
  case atStart => exact ⟨(([] : List (S44))), (0), (by first | rfl | (simp; done) | (simp [*]; done)), H', ⟨Nat.le_refl _⟩, ⟨by first | exact Kd.R_nil _ _ _ _ _ | exact Kd.N_nil _ _ _ _ _ | exact Kd.V_nil _ _ _ _ _ | exact Kd.Q_nil _ _ _ _ _ | exact Kd.S_nil _ _ _ _ _⟩, ⟨by repeat (first | (with_reducible first | exact HB.out | apply below_alloc | apply pw_below_drewN | apply below_drew1) | exact HB.out)⟩⟩
  case round =>
    clear H'
    try clear c1
    obtain ⟨x3_1, x8_1, rfl, HA, HK1, HO_3, HB⟩ := hrel
    cases gk with
    | zero => exact absurd HA.out (by simp [octroilaw23_plain.l0])
    | succ k1 =>
      have H := HA.out
      clear HA
      simp only [octroilaw23_plain.l0] at H
      by_cases c2 : x8_1 < (l0.length : Int)
      · rw [if_pos c2] at H
        have c2b0 : decide (x8_1 < (l0.length : Int)) = true := decide_eq_true c2
        clear c2
        by_cases c3 : 0 ≤ x8_1
        · rw [if_pos c3] at H
          have c3b0 : decide (0 ≤ x8_1) = true := decide_eq_true c3
          clear c3
          by_cases c4 : x8_1 < (l0.length : Int)
          · rw [if_pos c4] at H
            have c4b0 : decide (x8_1 < (l0.length : Int)) = true := decide_eq_true c4
            clear c4
            by_cases c5 : x3_1.length < 8796093022208
            · rw [if_pos c5] at H
              have LMc5 := Aside0.mk c5
              clear c5
              obtain ⟨y297, hy297⟩ : ∃ y_ : List (S44), y_ = (x3_1 ++ [(⟨(rd_T38 l0 x8_1).f0, (rd_T38 l0 x8_1).f1⟩ : S44)]) := ⟨_, rfl⟩
              replace H : (octroilaw23_plain.l0 k1 y297 l0 (l0.length : Int) (wrap64 (x8_1 + 1))) = some r := by first | (rw [hy297]; with_reducible exact H) | (have H2_ := (Option.bind_some _ _).symm.trans H; rw [hy297]; with_reducible exact H2_) | (have H2_ := (Option.bind_some _ _).symm.trans H; with_reducible exact H2_) | with_reducible exact H | (rw [hy297]; exact H) | exact H
              have Ny297 := Aside0.mk hy297
              clear hy297
              have H' := Aside0.mk H
              clear H
              have p295 : 0 ≤ (x8_1 : Int) := of_decide_eq_true (by first | (with_reducible assumption) | assumption)
              have q295 : x8_1 < (l0.length : Int) := of_decide_eq_true (by first | (with_reducible assumption) | assumption)
              obtain ⟨ad295, e295, hx295_0, hx295_1⟩ := at_T38 HR0.out x8_1 p295 q295
              cases e295
              replace hx295_0 := (HB.out.cell (World.block_lt_of_cell? w _ hx295_0)).trans hx295_0
              replace hx295_1 := (HB.out.cell (World.block_lt_of_cell? w _ hx295_1)).trans hx295_1
              replace p295 := eq_true p295
              replace q295 := eq_true q295
              go_wp2_with (first | ((with_reducible refine gate_dst (N := 5) rfl ?_); refine box_event ?hg (N := 5) ?hd (cs := #[.int .i64 0, .int .i64 0]) (t := 38) ?hr ?_; (case hd => rfl); (case hg => rfl); (case hr => first | (go_simp; done) | (go_simp; rfl)); intro gb296 hg w6 hbox hb; have n0_ := Aside0.mk (Kd.R_below (by (with_reducible repeat (first | apply Kd.R_alloc | apply Kd.R_drewN | apply Kd.R_drew)); exact HO_3.out) hb); have n1_ := Aside0.mk (below_step (by repeat (first | (with_reducible first | exact HB.out | apply below_alloc | apply pw_below_drewN | apply below_drew1) | exact HB.out)) hb); have n2_ := Aside0.mk (hbox); have n3_ := Aside0.mk ((by rw [hg]; exact (below_size (by repeat (first | (with_reducible first | exact HB.out | apply below_alloc | apply pw_below_drewN | apply below_drew1) | exact HB.out))) : w.heap.size ≤ gb296)); have n4_ := Aside0.mk ((by rw [hg]; exact (below_size (by repeat (first | (with_reducible first | exact HB.out | apply below_alloc | apply pw_below_drewN | apply below_drew1) | exact HB.out))) : w.heap.size ≤ gb296)); clear HO_3; clear HB; have HO_3 := n0_; have HB := n1_; have BK296 := n2_; have GW296 := n3_; have GE296 := n4_; clear n0_ n1_ n2_ n3_ n4_; clear hb hbox hg; have hcz7_0 : w6.cell? ⟨gb296, 0, none⟩ = some (.int .i64 0) := (blk_cell BK296.out 0).trans rfl; have hcz7_1 : w6.cell? ⟨gb296, 1, none⟩ = some (.int .i64 0) := (blk_cell BK296.out 1).trans rfl; have hfz7_0 := blk_frozen BK296.out 0; have hfz7_1 := blk_frozen BK296.out 1) | ((with_reducible refine gate_builtin (b := .append) (xs := #[.tmp 12, .tmp 14]) rfl ?_); at_builtin; refine Kd.R_append k44 (w0 := w) w.heap.size rfl (.tmp 12) (.tmp 14) 34 44 (.agg #[(.int .i64 0), (.int .i64 0)]) 16 rfl Try.underlying34 info44 rfl (by decide) (by omega) u3 x3_1 (⟨(rd_T38 l0 x8_1).f0, (rd_T38 l0 x8_1).f1⟩ : S44) [.int .i64 ((rd_T38 l0 x8_1).f0), .int .i64 ((rd_T38 l0 x8_1).f1)] (fun _ => True) (fun _ => False) rfl (by first | (go_simp; done) | (go_simp; rfl)) ?aP (fun _ hk => hk.elim) ?aF ?aO ?aB ?aS ?aL ?_; (case aP => exact k44_mkM _ _ _ (⟨(rd_T38 l0 x8_1).f0, (rd_T38 l0 x8_1).f1⟩ : S44)); (case aB => exact (by repeat (first | (with_reducible first | exact HB.out | apply below_alloc | apply pw_below_drewN | apply below_drew1 | refine below_set ?_ GE296.out) | exact HB.out))); (case aF => exact (fun _ _ => trivial)); (case aO => exact (by (with_reducible repeat (first | apply Kd.R_alloc | apply Kd.R_drewN | apply Kd.R_drew)); exact Kd.R_mono (Kd.R_far (p := ⟨gb296, 1, none⟩) (Kd.R_far (p := ⟨gb296, 0, none⟩) (Kd.R_types HO_3.out BK296.out (by decide)) (fun _ hk => hk.2) (.int .i64 ((rd_T38 l0 x8_1).f0))) (fun _ hk => hk.2) (.int .i64 ((rd_T38 l0 x8_1).f1))) (fun _ hk => trivial))); (case aS => exact (below_size (by repeat (first | (with_reducible first | exact HB.out | apply below_alloc | apply pw_below_drewN | apply below_drew1 | refine below_set ?_ GE296.out) | exact HB.out)))); (case aL => have := LMc5.out; omega); intro v298 w8 ho hb hg hat; rw [← Ny297.out] at ho; have n0_ := Aside0.mk (blk_grown (g := gb296) (o := .cells #[.int .i64 ((rd_T38 l0 x8_1).f0), .int .i64 ((rd_T38 l0 x8_1).f1)] 38 (0, 0)) (by (with_reducible repeat (first | refine blk_drewN ?_ _ | refine blk_drew ?_ | refine blk_alloc ?_ _)); refine blk_put (cs := #[.int .i64 ((rd_T38 l0 x8_1).f0), .int .i64 0]) ?_ 1 _ rfl; (with_reducible repeat (first | refine blk_drewN ?_ _ | refine blk_drew ?_ | refine blk_alloc ?_ _)); refine blk_put (cs := #[.int .i64 0, .int .i64 0]) ?_ 0 _ rfl; (with_reducible repeat (first | refine blk_drewN ?_ _ | refine blk_drew ?_ | refine blk_alloc ?_ _)); exact BK296.out) hg (Kd.R_ne HO_3.out BK296.out (by decide))); have n1_ := Aside0.mk (hb); have n2_ := Aside0.mk (ho); clear BK296; clear HB; clear HO_3; have BK296 := n0_; have HB := n1_; have HO299 := n2_; clear n0_ n1_ n2_; clear ho hb hg hat))
              go_roundg k1
              case measure => have := HK1.out; omega
              case rel => exact ⟨(y297), (wrap64 (x8_1 + 1)), (by first | rfl | (simp; done) | (simp [*]; done)), H', ⟨by have := HK1.out; omega⟩, ⟨by (with_reducible repeat (first | apply Kd.R_alloc | apply Kd.R_drewN | apply Kd.R_drew)); exact HO299.out⟩, ⟨by repeat (first | (with_reducible first | exact HB.out | apply below_alloc | apply pw_below_drewN | apply below_drew1 | refine below_set ?_ GE296.out) | exact HB.out)⟩⟩
            · rw [if_neg c5] at H
              exact absurd H (by simp)
          · rw [if_neg c4] at H
            exact absurd H (by simp)
        · rw [if_neg c3] at H
          exact absurd H (by simp)
      · rw [if_neg c2] at H
        have c2b0 : decide (x8_1 < (l0.length : Int)) = false := decide_eq_false c2
        clear c2
        obtain rfl := Option.some.inj H
        go_wp2
        go_ret
        exact ⟨_, by first | rfl | (simp [errW_none, errW_some] <;> rfl) | (simp [*, errW_none, errW_some] <;> rfl), by (with_reducible repeat (first | apply Kd.R_alloc | apply Kd.R_drewN | apply Kd.R_drew)); exact HO_3.out, by repeat (first | (with_reducible first | exact HB.out | apply below_alloc | apply pw_below_drewN | apply below_drew1) | exact HB.out)⟩
end Go.Proofs.Ytdhmhdhfgojofaa.Print
namespace Go.Proofs.Ytdhmhdhfgojofaa.Ax
open Go Go.RowKit
set_option linter.unusedVariables false
set_option linter.unusedSimpArgs false
mutual
theorem lt_ids {n : Nat} : ∀ s : SV, s.lt n = true → s.ids (fun i => Nat.blt i n) = true
  | .v _, _ => rfl
  | .ptr id _, h => h
  | .elt id _ _ _, h => h
  | .slc id _ _ _ _, h => h
  | .all id, h => h
  | .map id, h => h
  | .fn _ fi ca, h => by
    simp only [SV.lt, Bool.and_eq_true] at h
    simp only [SV.ids, lt_idsL fi h.1, lt_idsL ca h.2, Bool.and_true]
  | .agg l, h => lt_idsL l h
  | .tup l, h => lt_idsL l h
theorem lt_idsL {n : Nat} : ∀ l : List SV, ltL n l = true → idsL (fun i => Nat.blt i n) l = true
  | [], _ => rfl
  | s :: l, h => by
    simp only [ltL, Bool.and_eq_true] at h
    simp only [idsL, lt_ids s h.1, lt_idsL l h.2, Bool.and_true]
end
def KO (p : Nat) (s : SV) (h : Hp) : Option (SV × Hp) := match gcSt [0] p ⟨[(0, s)], h, 0⟩ with
  | none => none
  | some σ => match look σ.sl 0 with
    | none => none
    | some s' => cond (Nat.ble σ.nx (p + wide)) (forceV s' fun s'' => forceHp σ.hp fun h' => some (s'', h')) none
def mr (m : Nat → Nat) (p lo i : Nat) : Nat := cond (Nat.blt i p) (m i) (lo + (i - p))
def AObj.isDead : AObj → Bool
  | .dead => true
  | _ => false
theorem AObj.of_isDead {o : AObj} (h : o.isDead = true) : o = .dead := by cases o <;> first | rfl | cases h
def updGo (r : Nat → Nat) (H : Hp) : Hp → List (Nat × AObj)
  | [] => []
  | (i, _) :: l => match look H i with
    | some o => cond (o.own || o.isDead) ((r i, renO r o) :: updGo r H l) (updGo r H l)
    | none => updGo r H l
theorem updGo_mem {r : Nat → Nat} {H : Hp} : ∀ {l : Hp} {j : Nat} {x : AObj}, (j, x) ∈ updGo r H l → ∃ i o, look H i = some o ∧ (o.own = true ∨ o = .dead) ∧ j = r i ∧ x = renO r o
  | [], _, _, h => by cases h
  | (i, _) :: l, j, x, h => by
    simp only [updGo] at h
    split at h
    · rename_i o ho
      cases hw : (o.own || o.isDead) with
      | false => rw [hw] at h; exact updGo_mem h
      | true =>
        rw [hw] at h
        rw [Bool.or_eq_true] at hw
        rcases List.mem_cons.1 h with h | h
        · cases h; exact ⟨i, o, ho, hw.imp id AObj.of_isDead, rfl, rfl⟩
        · exact updGo_mem h
    · exact updGo_mem h
theorem look_key {H : Hp} {i : Nat} {o : AObj} (h : look H i = some o) : ∃ x, (i, x) ∈ H := by
  induction H with
  | nil => cases h
  | cons q l ih =>
    obtain ⟨k, y⟩ := q
    simp only [look] at h
    by_cases e : k = i
    · subst e; exact ⟨y, by simp⟩
    · rw [beq_no e] at h
      obtain ⟨x, hx⟩ := ih h
      exact ⟨x, by simp [hx]⟩
theorem updGo_has {r : Nat → Nat} {H : Hp} {i : Nat} {o : AObj} (h : look H i = some o) (hw : o.own = true ∨ o = .dead) : ∀ {l : Hp}, (∃ x, (i, x) ∈ l) → ∃ x, (r i, x) ∈ updGo r H l
  | [], ⟨x, hx⟩ => by cases hx
  | (k, y) :: l, ⟨x, hx⟩ => by
    simp only [updGo]
    rcases List.mem_cons.1 hx with hx | hx
    · cases hx
      rw [h]
      have hw' : (o.own || o.isDead) = true := by
        rcases hw with hw | hw
        · rw [hw]; rfl
        · rw [hw]; rfl
      simp only [hw', cond_true]
      exact ⟨_, List.mem_cons.2 (.inl rfl)⟩
    · obtain ⟨z, hz⟩ := updGo_has h hw ⟨x, hx⟩
      split
      · rename_i o' _
        cases (o'.own || o'.isDead)
        · exact ⟨z, hz⟩
        · exact ⟨z, List.mem_cons.2 (.inr hz)⟩
      · exact ⟨z, hz⟩
theorem look_puts_cases (l : List (Nat × AObj)) : ∀ (h : Hp) (i : Nat) (o : AObj), look (puts h l) i = some o → (i, o) ∈ l ∨ ((∀ q ∈ l, q.1 ≠ i) ∧ look h i = some o) := by
  induction l with
  | nil => exact fun h i o ho => .inr ⟨(fun q hq => by cases hq), ho⟩
  | cons q l ih =>
    obtain ⟨k, x⟩ := q
    intro h i o ho
    rcases ih _ _ _ ho with h' | ⟨h1, h'⟩
    · exact .inl (by simp [h'])
    · rw [look_put] at h'
      split at h'
      · rename_i e; subst e; cases h'; exact .inl (by simp)
      · rename_i e
        refine .inr ⟨fun q hq => ?_, h'⟩
        rcases List.mem_cons.1 hq with hq | hq
        · subst hq; exact e
        · exact h1 q hq
inductive View (m : Nat → Nat) : AObj → AObj → Prop where
  | own (ty : TypeId) (c : List SV) : View m (.cells ty (renL m c)) (.cells ty c)
  | row (ty : TypeId) (s : List Sc) (l : List (TT s)) : View m (.row ty s l) (.row ty s l)
  | reads {o oc : AObj} (h : Reads m o oc) : View m o oc
theorem View.ok {m : Nat → Nat} {ρ : Rho} {w : World} {L : Loc} {o oc : AObj} (h : View m o oc) (hk : OK ρ w L o) : OK (fun i => ρ (m i)) w L oc := by
  cases h with
  | own ty c => exact ⟨hk.1, hk.2.1, by rw [← denL_ren]; exact hk.2.2⟩
  | row ty s l => exact hk
  | reads h => exact h.ok hk
theorem View.of_own {m : Nat → Nat} {o oc : AObj} (h : View m o oc) (hw : oc.own = true) : o.own = true := by
  cases h with
  | own ty c => rfl
  | row ty s l => rfl
  | reads h =>
    have := h.shared
    cases oc <;> first | (cases hw; done) | (cases this; done)
theorem View.live {m : Nat → Nat} {o oc : AObj} (h : View m o oc) : o.own = true ∨ o.shared = true := by
  cases h with
  | own ty c => exact .inl rfl
  | row ty s l => exact .inl rfl
  | reads h =>
    cases oc with
    | ro ty c =>
      rcases h with h | h <;> subst h
      · exact .inl rfl
      · exact .inr rfl
    | arg s l =>
      rcases h with ⟨_, h⟩ | h <;> subst h
      · exact .inl rfl
      · exact .inr rfl
    | _ => cases h
section
variable {P : Program} {C : FuncId → Option Con} {cn : Nat → St → Option St} {F : Nat}
theorem con_own {B : Nat → Prop} {f : FuncId} {fn : Func} {c0 : Code} (hm : P.follows .mixedOrders = true) (hf : P.funcs[f]? = some fn) (hname : (fn.name == "runtime.NumGoroutine") = false) (hbody : fn.body = some c0)
    (hC : ∀ B' g φ, C g = some φ → ConOk P B' g φ) {p : Nat} (hcn : ∀ B' (w0 : Base), w0.pin ≤ p → CnOk cn B' w0 fn.ntmps) (args : List SV) (m : Nat → Nat) (hc : Hp) (r : SV) (hp' : Hp)
    (hev : evFn P C cn F fn args hc p (KO p) = some (r, hp'))
    (ρ : Rho) (h : Hp) (w : World) (lo : Nat) (hr : HR B ρ h w) (hfree : HFree lo (lo + wide) h) (up : ∀ b, w.heap.size ≤ b → B b)
    (hargs : ltL p args = true) (hwf : ∀ i oc, look hc i = some oc → i < p ∧ oc.lt p = true) (hmf : ∀ i, i < p → m i < lo ∨ lo + wide ≤ m i)
    (hviews : ∀ i oc, look hc i = some oc → ∃ o, look h (m i) = some o ∧ View m o oc)
    (hinj : ∀ i j oc oc', look hc i = some oc → look hc j = some oc' → i ≠ j → oc.own = true → m i ≠ m j)
    (hown : ∀ i oc, look hc i = some oc → oc.own = true → ∃ o', look hp' i = some o' ∧ (o'.own = true ∨ o' = .dead)) :
    CallGives P f (denL ρ (renL m args)).toArray w fun v w' => ∃ ρ', Made B ρ h w lo (lo + wide) ⟨ren (mr m p lo) r, updGo (mr m p lo) hp' hp'⟩ ρ' v w' := by
  refine .inl ⟨Go.run_callFunc_enter' hf hname hbody _ _, ?_⟩
  rw [denL_ren]
  obtain ⟨B2, hB2⟩ : ∃ B2 : Nat → Prop, B2 = fun b => w.heap.size ≤ b ∨ ∃ i oc, look hc i = some oc ∧ oc.own = true ∧ (ρ (m i)).nil = false ∧ (ρ (m i)).blk = b := ⟨_, rfl⟩
  have hBB : ∀ b, B2 b → B b := by
    intro b hb
    rw [hB2] at hb
    rcases hb with hb | ⟨i, oc, h1, h2, h3, h4⟩
    · exact up b hb
    · obtain ⟨o, k1, k2⟩ := hviews i oc h1
      rw [← h4]
      exact hr.inB _ o k1 (k2.of_own h2) h3
  -- a caller's thing that is not among those that the callee owns: its block is out of reach
  have out : ∀ j x, look h j = some x → x ≠ .dead → (ρ j).nil = false → (∀ i oc, look hc i = some oc → oc.own = true → m i ≠ j) → ¬ B2 (ρ j).blk := by
    intro j x hx hd hn hne hb
    rw [hB2] at hb
    rcases hb with hb | ⟨i, oc, h1, h2, h3, h4⟩
    · have := (hr.ok j x hx).lt hd hn
      omega
    · obtain ⟨o, k1, k2⟩ := hviews i oc h1
      have ho := k2.of_own h2
      by_cases hxo : x.own = true
      · exact hr.inj (m i) j o x k1 hx ho hxo h3 hn (hne i oc h1 h2) h4
      · have hxs : x.shared = true := by cases x <;> first | rfl | (exact absurd rfl hd) | (exact absurd rfl hxo)
        exact hr.arg j x hx hxs hn (h4 ▸ hr.inB (m i) o k1 ho h3)
  have hrc : HR B2 (fun i => ρ (m i)) hc w := by
    refine ⟨fun i oc ho => ?_, fun i oc ho hw hn => ?_, fun i oc ho hs hn => ?_, fun i j oc oc' ho ho' hw hw' hn hn' hij => ?_⟩
    · obtain ⟨o, k1, k2⟩ := hviews i oc ho
      exact k2.ok (hr.ok _ _ k1)
    · rw [hB2]; exact .inr ⟨i, oc, ho, hw, hn, rfl⟩
    · obtain ⟨o, k1, k2⟩ := hviews i oc ho
      refine out (m i) o k1 (fun e => ?_) hn (fun i' oc' h1 h2 => ?_)
      · rcases k2.live with k | k <;> (subst e; cases k)
      · exact hinj i' i oc' oc h1 ho (fun e => by subst e; rw [h1] at ho; cases ho; cases oc <;> first | (cases h2; done) | (cases hs; done)) h2
    · obtain ⟨o, k1, k2⟩ := hviews i oc ho
      obtain ⟨o', k1', k2'⟩ := hviews j oc' ho'
      exact hr.inj (m i) (m j) o o' k1 k1' (k2.of_own hw) (k2'.of_own hw') hn hn' (hinj i j oc oc' ho ho' hij hw)
  have hsub : ∀ b, w.heap.size ≤ b → B2 b := fun b hb => by rw [hB2]; exact .inl hb
  refine (evFn_sound hm hf (hC _) hev _ w ⟨w, fun i => ρ (m i), p⟩ rfl (fun _ _ => rfl) (Nat.le_refl _) (hcn _ _ (Nat.le_refl _)) hrc hwf hargs hsub).mono ?_
  rintro e w' ⟨ρ1, s, h1, rfl, hk, hrf, hks, hpn⟩
  refine ⟨_, rfl, ?_⟩
  unfold KO at hk
  cases hg : gcSt [0] p ⟨[(0, s)], h1, 0⟩ with
  | none => rw [hg] at hk; cases hk
  | some σ =>
    rw [hg] at hk
    simp only at hk
    cases hl : look σ.sl 0 with
    | none => rw [hl] at hk; cases hk
    | some s' =>
      rw [hl] at hk
      simp only [forceV_eq, forceHp_eq] at hk
      cases hb : Nat.ble σ.nx (p + wide) with
      | false => rw [hb] at hk; cases hk
      | true =>
        rw [hb] at hk
        cases hk
        have hN := Nat.le_of_ble_eq_true hb
        have hR : R B2 ⟨w, fun i => ρ (m i), p⟩ 1 ⟨[(0, s)], h1, 0⟩ ρ1 { tmps := #[den ρ1 s], defers := [] } w' := by
          refine ⟨rfl, rfl, fun t s0 hs => ?_, hrf, hsub, hks, hpn⟩
          simp only [look] at hs
          by_cases e : 0 = t
          · subst e; cases hs; exact ⟨by omega, rfl⟩
          · rw [beq_no e] at hs; cases hs
        obtain ⟨hwf', hgo⟩ := gcSt_ok (w0 := ⟨w, fun i => ρ (m i), p⟩) (B := B2) (n := 1) (Nat.le_refl p) hg
        obtain ⟨ρ2, hR2⟩ := hgo _ _ _ hR
        have hv : den ρ1 s = den ρ2 r := (hR2.sl 0 r hl).2
        have hpn2 : ∀ i, i < p → ρ2 i = ρ (m i) := hR2.pn
        obtain ⟨ρo, hρo⟩ : ∃ ρo : Rho, ρo = fun j => if lo ≤ j ∧ j < lo + wide then ρ2 (p + (j - lo)) else ρ j := ⟨_, rfl⟩
        have hout : ∀ j, j < lo ∨ lo + wide ≤ j → ρo j = ρ j := fun j hj => by rw [hρo]; exact if_neg (by omega)
        have key : ∀ i, i < σ.nx → ρo (mr m p lo i) = ρ2 i := by
          intro i hi
          unfold mr
          by_cases hip : i < p
          · rw [lt_blt hip]
            simp only [cond_true]
            rw [hout _ (hmf i hip), hpn2 i hip]
          · rw [show Nat.blt i p = false from by cases hx : Nat.blt i p with | false => rfl | true => exact absurd (blt_lt hx) hip]
            simp only [cond_false]
            rw [hρo]
            show (if lo ≤ lo + (i - p) ∧ lo + (i - p) < lo + wide then ρ2 (p + (lo + (i - p) - lo)) else _) = _
            rw [if_pos (by omega)]
            congr 1
            omega
        have denK : ∀ s0 : SV, s0.lt σ.nx = true → den ρo (ren (mr m p lo) s0) = den ρ2 s0 := fun s0 h0 => by
          rw [den_ren]; exact den_ids (fun i hi => key i (blt_lt hi)) s0 (lt_ids s0 h0)
        have denKL : ∀ l0 : List SV, ltL σ.nx l0 = true → denL ρo (renL (mr m p lo) l0) = denL ρ2 l0 := fun l0 h0 => by
          rw [denL_ren]; exact denL_ids (fun i hi => key i (blt_lt hi)) l0 (lt_idsL l0 h0)
        have own' : ∀ o : AObj, (renO (mr m p lo) o).own = o.own := fun o => by cases o <;> rfl
        have hasU : ∀ i oc, look hc i = some oc → oc.own = true → ∃ x, (m i, x) ∈ updGo (mr m p lo) σ.hp σ.hp := by
          intro i oc h2 h3
          obtain ⟨o', k1, k2⟩ := hown i oc h2 h3
          obtain ⟨x, hx⟩ := updGo_has (r := mr m p lo) k1 k2 (look_key k1)
          have : mr m p lo i = m i := by unfold mr; rw [lt_blt (hwf i oc h2).1]; rfl
          rw [this] at hx
          exact ⟨x, hx⟩
        have old : ∀ j x, look h j = some x → (∀ q ∈ updGo (mr m p lo) σ.hp σ.hp, q.1 ≠ j) → x ≠ .dead → (ρ j).nil = false → ¬ B2 (ρ j).blk := by
          intro j x hx hq hd hn
          refine out j x hx hd hn (fun i oc h2 h3 e => ?_)
          obtain ⟨y, hy⟩ := hasU i oc h2 h3
          exact hq _ hy e
        refine ⟨ρo, ⟨by rw [hv]; exact (denK r (hwf'.sl 0 r hl)).symm, fun i hi => hout i hi, ⟨?_, ?_, ?_, ?_⟩, ⟨hks.os, hks.tape, hks.output, hks.size, fun k hk => hks.block k (fun hb => hk (hBB k hb))⟩⟩⟩
        · intro j x hx
          rcases look_puts_cases _ _ _ _ hx with hx | ⟨hq, hx⟩
          · obtain ⟨i, o, g1, g2, rfl, rfl⟩ := updGo_mem hx
            have hlt := hwf'.hp i o g1
            rw [key i hlt.1]
            have hk := hR2.hr.ok i o g1
            rcases g2 with g2 | g2
            · cases o with
              | cells ty c => exact ⟨hk.1, hk.2.1, by rw [denKL c hlt.2]; exact hk.2.2⟩
              | row ty s l => exact hk
              | _ => cases g2
            · subst g2; trivial
          · by_cases hd : x = .dead
            · subst hd; trivial
            · have hj := hfree j x hx
              rw [hout j hj.1]
              exact (hr.ok j x hx).keep (fun ty' c' e => denL_free (lo := lo) (hi := lo + wide) hout c' (free_cells hj.2 ty' c' e)) (fun hn => hks.block _ (old j x hx hq hd hn)) hks.size
        · intro j x hx hw hn
          rcases look_puts_cases _ _ _ _ hx with hx | ⟨hq, hx⟩
          · obtain ⟨i, o, g1, g2, rfl, rfl⟩ := updGo_mem hx
            rw [key i (hwf'.hp i o g1).1] at hn ⊢
            exact hBB _ (hR2.hr.inB i o g1 (by rw [own'] at hw; exact hw) hn)
          · rw [hout j (hfree j x hx).1] at hn ⊢
            exact hr.inB j x hx hw hn
        · intro j x hx hs hn
          rcases look_puts_cases _ _ _ _ hx with hx | ⟨hq, hx⟩
          · obtain ⟨i, o, g1, g2, rfl, rfl⟩ := updGo_mem hx
            rcases g2 with g2 | g2
            · cases o <;> first | (cases g2; done) | (cases hs; done)
            · subst g2; cases hs
          · rw [hout j (hfree j x hx).1] at hn ⊢
            exact hr.arg j x hx hs hn
        · intro i j x y hx hy hwx hwy hn hn' hij
          rcases look_puts_cases _ _ _ _ hx with hx | ⟨hq, hx⟩
          · obtain ⟨a, o, g1, g2, rfl, rfl⟩ := updGo_mem hx
            rw [key a (hwf'.hp a o g1).1] at hn ⊢
            rcases look_puts_cases _ _ _ _ hy with hy | ⟨hq', hy⟩
            · obtain ⟨b, o', g1', g2', rfl, rfl⟩ := updGo_mem hy
              rw [key b (hwf'.hp b o' g1').1] at hn' ⊢
              exact hR2.hr.inj a b o o' g1 g1' (by rw [own'] at hwx; exact hwx) (by rw [own'] at hwy; exact hwy) hn hn' (fun e => hij (by rw [e]))
            · rw [hout j (hfree j y hy).1] at hn' ⊢
              intro e
              refine old j y hy hq' (fun e' => by subst e'; cases hwy) hn' ?_
              rw [← e]
              exact hR2.hr.inB a o g1 (by rw [own'] at hwx; exact hwx) hn
          · rw [hout i (hfree i x hx).1] at hn ⊢
            rcases look_puts_cases _ _ _ _ hy with hy | ⟨hq', hy⟩
            · obtain ⟨b, o', g1', g2', rfl, rfl⟩ := updGo_mem hy
              rw [key b (hwf'.hp b o' g1').1] at hn' ⊢
              intro e
              refine old i x hx hq (fun e' => by subst e'; cases hwx) hn ?_
              rw [e]
              exact hR2.hr.inB b o' g1' (by rw [own'] at hwy; exact hwy) hn'
            · rw [hout j (hfree j y hy).1] at hn' ⊢
              exact hr.inj i j x y hx hy hwx hwy hn hn' hij
end
end Go.Proofs.Ytdhmhdhfgojofaa.Ax
namespace Go.Proofs.Ytdhmhdhfgojofaa.Ax
open Go Go.RowKit Go.Proofs.YtdhmhdhfgojofaaW.PrintWords
set_option linter.unusedVariables false
set_option linter.unusedSimpArgs false
mutual
theorem ren_lt0 (m : Nat → Nat) : ∀ s : SV, s.lt 0 = true → ren m s = s
  | .v _, _ => rfl
  | .ptr id _, h => absurd (blt_lt h) (Nat.not_lt_zero _)
  | .elt id _ _ _, h => absurd (blt_lt h) (Nat.not_lt_zero _)
  | .slc id _ _ _ _, h => absurd (blt_lt h) (Nat.not_lt_zero _)
  | .all id, h => absurd (blt_lt h) (Nat.not_lt_zero _)
  | .map id, h => absurd (blt_lt h) (Nat.not_lt_zero _)
  | .fn _ fi ca, h => by
    simp only [SV.lt, Bool.and_eq_true] at h
    simp only [ren]; rw [renL_lt0 m fi h.1, renL_lt0 m ca h.2]
  | .agg l, h => by simp only [ren]; rw [renL_lt0 m l h]
  | .tup l, h => by simp only [ren]; rw [renL_lt0 m l h]
theorem renL_lt0 (m : Nat → Nat) : ∀ l : List SV, ltL 0 l = true → renL m l = l
  | [], _ => rfl
  | s :: l, h => by
    simp only [ltL, Bool.and_eq_true] at h
    simp only [renL]; rw [ren_lt0 m s h.1, renL_lt0 m l h.2]
end
section
variable {P : Program} {C : FuncId → Option Con} {cn : Nat → St → Option St} {F : Nat} {B : Nat → Prop} {f : FuncId} {fn : Func} {ρ : Rho} {h : Hp} {w : World} {lo : Nat}
end
theorem arg_of_C {α : Type} {d : Kd α} {s : List Sc} {f : α → TT s} (hd : ∀ w x c, d.K w x c → c = enc s (f x)) (hsz : d.sz = s.length) (hs0 : 0 < s.length) {w : World} {A : Option Addr} {c : Nat} {l : List α} (h : Kd.C d w A l.length l) (hc : l.length ≤ c) (hl : l ≠ []) :
    ∃ L : Loc, L.nil = false ∧ L.len = l.length ∧ L.cap = c ∧ A = some ⟨L.blk, L.off, none⟩ ∧ (∀ ρ, OK ρ w L (.arg s (l.map f))) := by
  have hpos : 0 < l.length := by cases l with | nil => exact absurd rfl hl | cons => simp
  obtain ⟨h1, h2, h3⟩ := h
  obtain ⟨ad, rfl, hcell⟩ := h3 hpos
  have cells : ∀ j p, l[j]? = some p → ∀ i u, (enc s (f p))[i]? = some u → w.cell? (ad.add (j * s.length + i)) = some u := by
    intro j p hp i u hu
    obtain ⟨cs, k1, k2, k3⟩ := hcell j p hp
    have := k3 i u (by rw [hd w p cs k2]; exact hu)
    rwa [hsz] at this
  obtain ⟨p0, hp0⟩ : ∃ p0, l[0]? = some p0 := ⟨_, List.getElem?_eq_getElem hpos⟩
  obtain ⟨u0, hu0⟩ : ∃ u0, (enc s (f p0))[0]? = some u0 := ⟨_, List.getElem?_eq_getElem (by rw [enc_length]; exact hs0)⟩
  have c0 := cells 0 p0 hp0 0 u0 hu0
  have hz : ad.add (0 * s.length + 0) = ad := by unfold Addr.add; rw [if_pos (by omega)]
  rw [hz] at c0
  have hsp : ad.spot = none ∧ ad.block < w.heap.size := by
    unfold World.cell? at c0
    cases hb : w.heap[ad.block]? with
    | none => rw [hb] at c0; cases c0
    | some o =>
      refine ⟨?_, (Array.getElem?_eq_some_iff.1 hb).1⟩
      rw [hb] at c0
      cases o with
      | cells cc ty fr =>
        simp only at c0
        cases hs : ad.spot with
        | none => rfl
        | some z => rw [hs] at c0; simp at c0
      | _ => cases c0
  have hadd : ∀ n, ad.add n = ⟨ad.block, ad.off + n, none⟩ := by
    intro n
    unfold Addr.add
    split
    · rename_i e; subst e; cases ad; simp at hsp; simp [hsp.1]
    · rfl
  refine ⟨⟨ad.block, ad.off, l.length, c, false⟩, rfl, rfl, rfl, ?_, fun ρ => ⟨by simp, .inr ⟨rfl, hsp.2, by simp; exact hc, fun j v hv => ?_⟩⟩⟩
  · cases ad; simp at hsp; simp [hsp.1]
  · -- the flat cells
    have hfl : ∀ (l : List α) (j : Nat) (v : Value), (flat s (l.map f))[j]? = some v → ∃ q p, l[q]? = some p ∧ (enc s (f p))[j - q * s.length]? = some v ∧ q * s.length ≤ j := by
      intro l
      induction l with
      | nil => intro j v hv; simp [flat] at hv
      | cons x l ih =>
        intro j v hv
        simp only [flat, List.map_cons, List.flatten_cons] at hv ih
        by_cases hj : j < s.length
        · rw [List.getElem?_append_left (by rw [enc_length]; exact hj)] at hv
          exact ⟨0, x, rfl, by simpa using hv, by omega⟩
        · rw [List.getElem?_append_right (by rw [enc_length]; omega), enc_length] at hv
          obtain ⟨q, p, k1, k2, k3⟩ := ih (j - s.length) v hv
          refine ⟨q + 1, p, by simpa using k1, ?_, by rw [Nat.succ_mul]; omega⟩
          rw [Nat.succ_mul, show j - (q * s.length + s.length) = j - s.length - q * s.length by omega]
          exact k2
    obtain ⟨q, p, k1, k2, k3⟩ := hfl l j v hv
    have := cells q p k1 _ v k2
    rw [show q * s.length + (j - q * s.length) = j by omega, hadd] at this
    exact this
theorem calls_of_arg {P : Program} {C : FuncId → Option Con} {cn : Nat → St → Option St} {F : Nat} {f : FuncId} {fn : Func} (hm : P.follows .mixedOrders = true) (hf : P.funcs[f]? = some fn)
    (hC : ∀ B' g φ, C g = some φ → ConOk P B' g φ) (hcn : ∀ B' (w : World), CnOk cn B' (Base.of w) fn.ntmps) {args : List SV} {s : List Sc} {l : List (TT s)} {r : SV} (hev : evFn P C cn F fn args [(0, .arg s l)] 1 K1 = some r) (ha : ltL 1 args = true) (ρ : Rho) (w : World) (hok : OK ρ w (ρ 0) (.arg s l)) :
    Calls P f (denL ρ args).toArray w fun e w' => e = .returned (den ρ r) ∧ Below w.heap.size w w' := by
  have hlk : ∀ i oc, look [(0, AObj.arg s l)] i = some oc → i = 0 ∧ oc = .arg s l := fun i oc hi => by
    simp only [look] at hi
    by_cases e : 0 = i
    · subst e; cases hi; exact ⟨rfl, rfl⟩
    · rw [beq_no e] at hi; cases hi
  have hr : HR (fun b => w.heap.size ≤ b) ρ [(0, .arg s l)] w := by
    refine ⟨fun i oc hi => ?_, fun i oc hi hw => ?_, fun i oc hi hs hn => ?_, fun i j oc oc' hi hj hw => ?_⟩
    · obtain ⟨rfl, rfl⟩ := hlk i oc hi; exact hok
    · obtain ⟨rfl, rfl⟩ := hlk i oc hi; cases hw
    · obtain ⟨rfl, rfl⟩ := hlk i oc hi
      have := hok.lt (fun e => by cases e) hn
      show ¬ w.heap.size ≤ _
      omega
    · obtain ⟨rfl, rfl⟩ := hlk i oc hi; cases hw
  refine (evFn_sound hm hf (hC _) hev ρ w (Base.of w) rfl (fun i hi => absurd hi (Nat.not_lt_zero _)) (Nat.zero_le _) (hcn _ w) hr (fun i oc hi => by obtain ⟨rfl, rfl⟩ := hlk i oc hi; exact ⟨by decide, rfl⟩) ha (fun b hb => hb)).mono ?_
  rintro e w' ⟨ρ', s', h', rfl, hk, _, hks, _⟩
  obtain ⟨rfl, hlt⟩ := K1_spec _ _ _ hk
  exact ⟨by rw [den_lt0 (ρ := ρ) (ρ' := ρ') _ hlt], hks.below (fun b hb => hb)⟩
end Go.Proofs.Ytdhmhdhfgojofaa.Ax
namespace Go.Proofs.Ytdhmhdhfgojofaa.Ax
open Go Go.RowKit Go.Proofs.Ytdhmhdhfgojofaa.Print Go.Proofs.YtdhmhdhfgojofaaW.PrintWords
set_option linter.unusedVariables false
set_option linter.unusedSimpArgs false
def cSum2 : Con := fun args lo => match args with
  | [.all id] => .obj id fun o => match o with
    | .row _ [.int .i64] l => .br (okLen l) (.ret ⟨.tup [.v (.int .i64 (smV l).1), .v (.int .i64 (smV l).2)], []⟩) .fail
    | _ => .fail
  | l => cSum l lo
theorem cSum2_ok (B) : ConOk Try.prog B 20 cSum2 := by
  intro args ρ h w lo out ids hr hrh hfr hfa up
  unfold cSum2 at hr
  split at hr
  · rename_i id
    obtain ⟨o, ids', ho, hr⟩ := obj_run hr
    split at hr
    · rename_i e l
      obtain ⟨hb, hr⟩ := br_run (h := h) hr
      cases hr
      have hl := Nat.le_of_ble_eq_true hb
      obtain ⟨A, c, h1, h2, h3⟩ := C_of_row (hrh.ok id _ ho) hl
      have hargs : (denL ρ [.all id]).toArray = #[.slice A l.length c] := by
        exact congrArg (fun v => (#[v] : Array Value)) (h1 ρ id rfl)
      rw [hargs]
      exact gives_same (s := .tup [.v (.int .i64 (smV l).1), .v (.int .i64 (smV l).2)]) (fn := Try.f20) Try.func20 (by kernel_rfl) (by kernel_rfl) hrh up (money_Sum.calls A c l _ _ w h3 h2 rfl)
    · cases hr
  · exact cSum_ok B _ ρ h w lo out ids hr hrh hfr hfa up
abbrev bxS (s : SV) : AObj := .cells 46 [s]
def appI (l : List Int) (a b : Int) : List Int := l ++ [a, b]
abbrev neg64 (c : Int) : Int := IntKind.i64.wrap (0 - c)
def cGather : Con := fun args lo => match args with
  | [.agg [.v (.int .i64 p), .v (.int .i64 c)], .ptr id 0] => .obj id fun o => match o with
    | .cells 46 [s] => match s with
      | .slc id1 1 0 1 (some 1) => .obj id1 fun o1 => match o1 with
        | .cells 3 [.v (.int .i64 x)] => .ret ⟨.v (.bool (dealB p c)), [(id, bxS (.all lo)), (id1, .cells 3 [.v (.int .i64 x)]), (lo, .row 3 [.int .i64] [x, p, neg64 c])]⟩
        | _ => .fail
      | .all id1 => .obj id1 fun o1 => match o1 with
        | .row 3 [.int .i64] l => .br (Nat.ble (l.length + 2) 1000000000) (.ret ⟨.v (.bool (dealB p c)), [(id, bxS (.all lo)), (id1, .dead), (lo, .row 3 [.int .i64] (appI l p (neg64 c)))]⟩) .fail
        | _ => .fail
      | _ => .fail
    | _ => .fail
  | _ => .fail
theorem gather_lit (p c x : Int) : evFn Try.prog CMarg cn0 4 Try.f19 [.agg [.v (.int .i64 p), .v (.int .i64 c)], .ptr 0 0] [(0, bxS (.slc 1 1 0 1 (some 1))), (1, .cells 3 [.v (.int .i64 x)])] 2 (KO 2) =
    some (.v (.bool (dealB p c)), [(0, bxS (.all 2)), (1, .cells 3 [.v (.int .i64 x)]), (2, .row 3 [.int .i64] [x, p, neg64 c])]) := by kernel_rfl
theorem gather_row (p c : Int) (l : List Int) : evFn Try.prog CMarg cn0 4 Try.f19 [.agg [.v (.int .i64 p), .v (.int .i64 c)], .ptr 0 0] [(0, bxS (.all 1)), (1, .row 3 [.int .i64] l)] 2 (KO 2) =
    sel (Nat.ble (l.length + 2) 1000000000) (some (.v (.bool (dealB p c)), [(0, bxS (.all 2)), (1, .dead), (2, .row 3 [.int .i64] (appI l p (neg64 c)))])) none := by kernel_rfl
theorem look2 {o0 o1 : AObj} {i : Nat} {oc : AObj} (h : look [(0, o0), (1, o1)] i = some oc) : (i = 0 ∧ oc = o0) ∨ (i = 1 ∧ oc = o1) := by
  simp only [look] at h
  by_cases e : 0 = i
  · subst e; cases h; exact .inl ⟨rfl, rfl⟩
  · rw [beq_no e] at h
    by_cases e' : 1 = i
    · subst e'; cases h; exact .inr ⟨rfl, rfl⟩
    · rw [beq_no e'] at h; cases h
theorem gather_gives {B : Nat → Prop} {ρ : Rho} {h : Hp} {w : World} {lo id id1 : Nat} {p c : Int} {s0 : SV} {o1 : AObj} {r : SV} {hp' : Hp} (hrh : HR B ρ h w) (hfr : HFree lo (lo + wide) h) (up : ∀ b, w.heap.size ≤ b → B b)
    (hs : s0.lt 2 = true) (ho : look h id = some (bxS (ren (fun i => cond (Nat.beq i 0) id id1) s0))) (ho1 : look h id1 = some o1) (hv : View (fun i => cond (Nat.beq i 0) id id1) o1 o1) (h1 : o1.lt 2 = true) (hne : id ≠ id1)
    (hev : evFn Try.prog CMarg cn0 4 Try.f19 [.agg [.v (.int .i64 p), .v (.int .i64 c)], .ptr 0 0] [(0, bxS s0), (1, o1)] 2 (KO 2) = some (r, hp'))
    (hown : ∀ i oc, look [(0, bxS s0), (1, o1)] i = some oc → oc.own = true → ∃ o', look hp' i = some o' ∧ (o'.own = true ∨ o' = .dead)) :
    CallGives Try.prog 19 (denL ρ [.agg [.v (.int .i64 p), .v (.int .i64 c)], .ptr id 0]).toArray w fun v w' => ∃ ρ', Made B ρ h w lo (lo + wide) ⟨ren (mr (fun i => cond (Nat.beq i 0) id id1) 2 lo) r, updGo (mr (fun i => cond (Nat.beq i 0) id id1) 2 lo) hp' hp'⟩ ρ' v w' := by
  obtain ⟨c0, hbody⟩ := Option.isSome_iff_exists.1 (show (Try.f19).body.isSome = true by kernel_rfl)
  exact con_own (B := B) mixed Try.func19 (by kernel_rfl) hbody CMarg_ok (p := 2) (fun B' w0 _ => cn0_ok B' w0 _) [.agg [.v (.int .i64 p), .v (.int .i64 c)], .ptr 0 0] (fun i => cond (Nat.beq i 0) id id1) [(0, bxS s0), (1, o1)] r hp' hev ρ h w lo hrh hfr up rfl
    (fun i oc hi => by
      rcases look2 hi with ⟨rfl, rfl⟩ | ⟨rfl, rfl⟩
      · exact ⟨by decide, by simp only [AObj.lt, ltL, hs, Bool.and_true]⟩
      · exact ⟨by decide, h1⟩)
    (fun i hi => by
      have : i = 0 ∨ i = 1 := by omega
      rcases this with rfl | rfl
      · exact (hfr id _ ho).1
      · exact (hfr id1 _ ho1).1)
    (fun i oc hi => by
      rcases look2 hi with ⟨rfl, rfl⟩ | ⟨rfl, rfl⟩
      · exact ⟨_, ho, View.own 46 [s0]⟩
      · exact ⟨_, ho1, hv⟩)
    (fun i j oc oc' hi hj hij _ => by
      rcases look2 hi with ⟨rfl, _⟩ | ⟨rfl, _⟩ <;> rcases look2 hj with ⟨rfl, _⟩ | ⟨rfl, _⟩
      · exact absurd rfl hij
      · exact hne
      · exact fun e => hne e.symm
      · exact absurd rfl hij)
    hown
theorem cGather_ok (B) : ConOk Try.prog B 19 cGather := by
  intro args ρ h w lo out ids hr hrh hfr hfa up
  unfold cGather at hr
  split at hr
  · rename_i p c id
    obtain ⟨o, ids', ho, hr⟩ := obj_run hr
    split at hr
    · rename_i s
      split at hr
      · rename_i id1
        obtain ⟨o1, ids2, ho1, hr⟩ := obj_run hr
        split at hr
        · rename_i x
          cases hr
          have hne : id ≠ id1 := fun e => by subst e; rw [ho] at ho1; cases ho1
          exact gather_gives hrh hfr up (s0 := .slc 1 1 0 1 (some 1)) rfl ho ho1 (View.own 3 [.v (.int .i64 x)]) rfl hne (gather_lit p c x) (fun i oc hi _ => by
            rcases look2 hi with ⟨rfl, _⟩ | ⟨rfl, _⟩
            · exact ⟨_, rfl, .inl rfl⟩
            · exact ⟨_, rfl, .inl rfl⟩)
        · cases hr
      · rename_i id1
        obtain ⟨o1, ids2, ho1, hr⟩ := obj_run hr
        split at hr
        · rename_i l
          obtain ⟨hb, hr⟩ := br_run (h := h) hr
          cases hr
          have hne : id ≠ id1 := fun e => by subst e; rw [ho] at ho1; cases ho1
          exact gather_gives hrh hfr up (s0 := .all 1) rfl ho ho1 (View.row _ _ _) rfl hne ((gather_row p c l).trans (by rw [show Nat.ble (List.length (α := Int) l + 2) 1000000000 = true from hb]; rfl)) (fun i oc hi _ => by
            rcases look2 hi with ⟨rfl, _⟩ | ⟨rfl, _⟩
            · exact ⟨_, rfl, .inl rfl⟩
            · exact ⟨_, rfl, .inr rfl⟩)
        · cases hr
      · cases hr
    · cases hr
  · cases hr
end Go.Proofs.Ytdhmhdhfgojofaa.Ax
namespace Go.Proofs.Ytdhmhdhfgojofaa.Ax
open Go Go.RowKit Go.Proofs.Ytdhmhdhfgojofaa.Print Go.Proofs.YtdhmhdhfgojofaaW.PrintWords
set_option linter.unusedVariables false
set_option linter.unusedSimpArgs false
def CPool : FuncId → Option Con
  | 20 => some cSum2
  | 19 => some cGather
  | 18 => some cMay
  | g => CMarg g
theorem CPool_ok : ∀ B' g φ, CPool g = some φ → ConOk Try.prog B' g φ := by
  intro B' g φ h
  unfold CPool at h
  split at h
  · cases h; exact cSum2_ok B'
  · cases h; exact cGather_ok B'
  · cases h; exact cMay_ok B'
  · exact CMarg_ok B' _ φ h
abbrev dS : List Sc := [.int .i64, .int .i64]
abbrev I2 : Type := Int × Int
def at2 (l : List I2) (i : Int) : I2 := l.getD i.toNat (0, 0)
def TPool : Nat → Option (List Nat)
  | 6 => some [1, 10, 11, 36, 37, 38]
  | _ => none
def pPool : List Dir := [.R, .R, .R, .R, .L, .R, .D]
def slPool (l : List I2) (i bp : Int) : List (Nat × SV) := [(1, .v (.int .i64 bp)), (10, .ptr 1 0), (11, .fn (.func 19) [] [.ptr 1 0]), (36, .all 0), (37, .v (.int .i64 l.length)), (38, .v (.int .i64 i))]
def HPoolA (l : List I2) (i bp x : Int) : St := ⟨slPool l i bp, [(0, .arg dS l), (1, bxS (.slc 2 1 0 1 (some 1))), (2, .cells 3 [.v (.int .i64 x)])], 4⟩
def HPoolB (l : List I2) (i bp : Int) (r : List Int) : St := ⟨slPool l i bp, [(0, .arg dS l), (1, bxS (.all 2)), (2, .row 3 [.int .i64] r)], 4⟩
noncomputable def LPA (F kk : Nat) (l : List I2) (i bp x : Int) : Option SV := loopAt (eff Try.prog CPool) Try.f9.ntmps (cnOf 1 TPool) F Try.prog Try.f9 K1 pPool kk (HPoolA l i bp x)
noncomputable def LPB (F kk : Nat) (l : List I2) (i bp : Int) (r : List Int) : Option SV := loopAt (eff Try.prog CPool) Try.f9.ntmps (cnOf 1 TPool) F Try.prog Try.f9 K1 pPool kk (HPoolB l i bp r)
def int4 (a b c d : Int) : Option SV := some (.tup [.v (.int .i64 a), .v (.int .i64 b), .v (.int .i64 c), .v (.int .i64 d)])
def finP (s : Int × Int) (P : Int × Int × Int) : Option SV := sel (s.2 != 0) (int4 0 0 0 s.2) (sel (decide (s.1 < 0)) (int4 0 0 (IntKind.i64.wrap (0 - s.1)) 0) (int4 P.1 P.2.1 0 P.2.2))
theorem LPA_eq (F kk : Nat) (l : List I2) (i bp x : Int) : LPA F (kk + 1) l i bp x =
    sel (decide (i < (l.length : Int))) (sel (decide (0 ≤ i)) (sel (decide (i < (l.length : Int))) (sel (decide (i.toNat < l.length))
      (sel (!dealB (at2 l i).1 (at2 l i).2) (int4 0 0 0 2) (LPB F kk l (IntKind.i64.wrap (i + 1)) bp [x, (at2 l i).1, neg64 (at2 l i).2])) none) none) none)
      (finP (smV [x]) (partV (smV [x]).1 true bp)) := by kernel_rfl
theorem LPB_eq (F kk : Nat) (l : List I2) (i bp : Int) (r : List Int) : LPB F (kk + 1) l i bp r =
    sel (decide (i < (l.length : Int))) (sel (decide (0 ≤ i)) (sel (decide (i < (l.length : Int))) (sel (decide (i.toNat < l.length))
      (sel (Nat.ble (r.length + 2) 1000000000) (sel (!dealB (at2 l i).1 (at2 l i).2) (int4 0 0 0 2) (LPB F kk l (IntKind.i64.wrap (i + 1)) bp (appI r (at2 l i).1 (neg64 (at2 l i).2)))) none) none) none) none)
      (sel (okLen r) (finP (smV r) (partV (smV r).1 true bp)) none) := by kernel_rfl
theorem pool_tree (F : Nat) (l : List I2) (bp carry : Int) : evFn Try.prog CPool (cnOf 1 TPool) F Try.f9 [.all 0, .v (.int .i64 bp), .v (.int .i64 carry)] [(0, .arg dS l)] 1 K1 =
    sel (decide (1048576 < (l.length : Int))) (int4 0 0 0 2) (sel (decide (carry < 0)) (int4 0 0 0 2) (sel (!mayB carry) (int4 0 0 0 2) (sel (!bpB bp) (int4 0 0 0 2) (LPA F F l 0 bp (neg64 carry))))) := by kernel_rfl
theorem pool_nil (A : Option Addr) (c : Nat) (bp carry : Int) : evFn Try.prog CPool (cnOf 0 TPool) 2 Try.f9 [.v (.slice A 0 c), .v (.int .i64 bp), .v (.int .i64 carry)] [] 0 K1 =
    sel (decide (carry < 0)) (int4 0 0 0 2) (sel (!mayB carry) (int4 0 0 0 2) (sel (!bpB bp) (int4 0 0 0 2) (finP (smV [neg64 carry]) (partV (smV [neg64 carry]).1 true bp)))) := by kernel_rfl
end Go.Proofs.Ytdhmhdhfgojofaa.Ax
namespace Go.Proofs.Ytdhmhdhfgojofaa.Ax
open Go Go.RowKit Go.Proofs.Ytdhmhdhfgojofaa.Print Go.Proofs.YtdhmhdhfgojofaaW.PrintWords
set_option linter.unusedVariables false
set_option linter.unusedSimpArgs false
def gath : List I2 → List Int
  | [] => []
  | d :: l => d.1 :: neg64 d.2 :: gath l
def dB (d : I2) : Bool := dealB d.1 d.2
def finV (r : List Int) (bp : Int) : Int × Int × Int × Int := bif (smV r).2 != 0 then (0, 0, 0, (smV r).2) else bif decide ((smV r).1 < 0) then (0, 0, IntKind.i64.wrap (0 - (smV r).1), 0) else ((partV (smV r).1 true bp).1, (partV (smV r).1 true bp).2.1, 0, (partV (smV r).1 true bp).2.2)
def tup4 (x : Int × Int × Int × Int) : Option SV := int4 x.1 x.2.1 x.2.2.1 x.2.2.2
theorem finP_eq (r : List Int) (bp : Int) : finP (smV r) (partV (smV r).1 true bp) = tup4 (finV r bp) := by
  unfold finP finV tup4
  cases ((smV r).2 != 0) <;> cases decide ((smV r).1 < 0) <;> rfl
def poolV (l : List I2) (bp carry : Int) : Int × Int × Int × Int :=
  bif decide (1048576 < (l.length : Int)) then (0, 0, 0, 2) else bif decide (carry < 0) then (0, 0, 0, 2) else bif !mayB carry then (0, 0, 0, 2) else bif !bpB bp then (0, 0, 0, 2)
    else bif l.all dB then finV (neg64 carry :: gath l) bp else (0, 0, 0, 2)
theorem drop_at (l : List I2) (i : Nat) (h : i < l.length) : l.drop i = at2 l i :: l.drop (i + 1) := by
  rw [List.drop_eq_getElem_cons h]
  unfold at2
  rw [Int.toNat_natCast, List.getD_eq_getElem?_getD, List.getElem?_eq_getElem h, Option.getD_some]
theorem LPB_val (F : Nat) (l : List I2) (hl : l.length ≤ 1048576) (bp : Int) : ∀ (d kk i : Nat) (r : List Int), i + d = l.length → d < kk → r.length + 2 * d ≤ 100000000 →
    LPB F kk l i bp r = bif (l.drop i).all dB then tup4 (finV (r ++ gath (l.drop i)) bp) else int4 0 0 0 2
  | 0, kk, i, r, hi, hk, hr => by
    obtain ⟨kk, rfl⟩ : ∃ q, kk = q + 1 := ⟨kk - 1, by omega⟩
    rw [LPB_eq, decide_eq_false (show ¬ (i : Int) < (l.length : Int) by omega), List.drop_eq_nil_of_le (by omega), show okLen r = true from Nat.ble_eq_true_of_le (by omega), finP_eq]
    simp only [gath, List.append_nil, List.all_nil, cond_true]
    rfl
  | d + 1, kk, i, r, hi, hk, hr => by
    obtain ⟨kk, rfl⟩ : ∃ q, kk = q + 1 := ⟨kk - 1, by omega⟩
    have hw : IntKind.i64.wrap ((i : Int) + 1) = ((i + 1 : Nat) : Int) := by rw [IntKind.wrap_i64]; omega
    have ih := LPB_val F l hl bp d kk (i + 1) (appI r (at2 l i).1 (neg64 (at2 l i).2)) (by omega) (by omega) (by unfold appI; simp; omega)
    rw [LPB_eq, decide_eq_true (show (i : Int) < (l.length : Int) by omega), decide_eq_true (show (0 : Int) ≤ (i : Int) by omega), decide_eq_true (show (i : Int).toNat < l.length by omega), show Nat.ble (r.length + 2) 1000000000 = true from Nat.ble_eq_true_of_le (by omega), hw, ih, drop_at l i (by omega)]
    have ha : appI r (at2 l i).1 (neg64 (at2 l i).2) ++ gath (l.drop (i + 1)) = r ++ gath (at2 l i :: l.drop (i + 1)) := by simp [appI, gath]
    rw [ha]
    have hd : (at2 l i :: l.drop (i + 1)).all dB = (dealB (at2 l i).1 (at2 l i).2 && (l.drop (i + 1)).all dB) := rfl
    rw [hd]
    cases dealB (at2 l i).1 (at2 l i).2 <;> rfl
theorem LPA_val (F : Nat) (l : List I2) (hl : l.length ≤ 1048576) (bp x : Int) (kk : Nat) (hk : l.length < kk) : LPA F kk l 0 bp x = bif l.all dB then tup4 (finV (x :: gath l) bp) else int4 0 0 0 2 := by
  obtain ⟨kk, rfl⟩ : ∃ q, kk = q + 1 := ⟨kk - 1, by omega⟩
  cases hz : l with
  | nil =>
    rw [LPA_eq, decide_eq_false (show ¬ (0 : Int) < ((([] : List I2).length : Nat) : Int) by simp), finP_eq]
    rfl
  | cons d0 l0 =>
    rw [← hz]
    have hpos : 0 < l.length := by rw [hz]; simp
    have ih := LPB_val F l hl bp (l.length - 1) kk 1 [x, (at2 l 0).1, neg64 (at2 l 0).2] (by omega) (by omega) (by simp; omega)
    rw [LPA_eq, decide_eq_true (show (0 : Int) < (l.length : Int) by omega), decide_eq_true (show (0 : Int) ≤ 0 by omega), decide_eq_true (show (0 : Int).toNat < l.length by simpa using hpos)]
    have hw : IntKind.i64.wrap (0 + 1) = ((1 : Nat) : Int) := by decide
    rw [hw, ih]
    have hd := drop_at l 0 hpos
    rw [List.drop_zero] at hd
    have h1 : l.all dB = (dealB (at2 l 0).1 (at2 l 0).2 && (l.drop 1).all dB) := by rw [hd]; rfl
    have h2 : x :: gath l = [x, (at2 l 0).1, neg64 (at2 l 0).2] ++ gath (l.drop 1) := by
      conv => lhs; rw [hd]
      rfl
    rw [h1, h2]
    cases dealB (at2 l 0).1 (at2 l 0).2 <;> rfl
theorem pool_ev (l : List I2) (bp carry : Int) : evFn Try.prog CPool (cnOf 1 TPool) 2000000 Try.f9 [.all 0, .v (.int .i64 bp), .v (.int .i64 carry)] [(0, .arg dS l)] 1 K1 = tup4 (poolV l bp carry) := by
  rw [pool_tree]
  unfold poolV
  by_cases h : 1048576 < (l.length : Int)
  · rw [decide_eq_true h]; rfl
  · rw [decide_eq_false h]
    rw [LPA_val 2000000 l (by omega) bp (neg64 carry) 2000000 (by omega)]
    cases decide (carry < 0) <;> cases mayB carry <;> cases bpB bp <;> cases l.all dB <;> rfl
theorem pool_nil_ev (A : Option Addr) (c : Nat) (bp carry : Int) : evFn Try.prog CPool (cnOf 0 TPool) 2 Try.f9 [.v (.slice A 0 c), .v (.int .i64 bp), .v (.int .i64 carry)] [] 0 K1 = tup4 (poolV [] bp carry) := by
  rw [pool_nil]
  unfold poolV
  rw [finP_eq, decide_eq_false (show ¬ 1048576 < ((([] : List I2).length : Nat) : Int) by simp)]
  cases decide (carry < 0) <;> cases mayB carry <;> cases bpB bp <;> rfl
end Go.Proofs.Ytdhmhdhfgojofaa.Ax
namespace Go.Proofs.Ytdhmhdhfgojofaa.Print
open Go Go.RowKit Go.Proofs.YtdhmhdhfgojofaaW.PrintWords Go.Proofs.Ytdhmhdhfgojofaa.Ax
set_option linter.unusedVariables false
set_option linter.unusedSimpArgs false
def dealT (x : S38) : TT [.int .i64, .int .i64] := (x.f0, x.f1)
def dealI (x : S38) : I2 := (x.f0, x.f1)
theorem dealT_enc : ∀ (w : World) (x : S38) (c : List Value), k38.K w x c → c = enc [.int .i64, .int .i64] (dealT x) := by
  intro w x c h
  rw [k38_open h]; rfl
def margin_Pool.f (l0 : List S38) (a1 a2 : Int) : Option (Int × Int × Int × Int) := some (poolV (l0.map dealI) a1 a2)
theorem margin_Pool.calls (A0 : Option Addr) (c0 : Nat) (l0 : List S38) (a1 a2 r1 r2 r3 r4 : Int) (w : World) (hr0 : Kd.C k38 w A0 l0.length l0) (hc0 : l0.length ≤ c0) (h : margin_Pool.f l0 a1 a2 = some (r1, r2, r3, r4)) :
    Calls Try.prog 9 #[.slice A0 l0.length c0, .int .i64 a1, .int .i64 a2] w fun e w' => e = .returned (.tuple #[.int .i64 r1, .int .i64 r2, .int .i64 r3, .int .i64 r4]) ∧ Below w.heap.size w w' := by
  have hv : poolV (l0.map dealI) a1 a2 = (r1, r2, r3, r4) := Option.some.inj h
  by_cases hl : l0 = []
  · subst hl
    have hev := pool_nil_ev A0 c0 a1 a2
    rw [show poolV ([] : List I2) a1 a2 = (r1, r2, r3, r4) from hv] at hev
    exact calls_of_ev mixed Try.func9 (by kernel_rfl) rfl CPool_ok (fun B' w => cnOf_ok (pin := 0) (T := TPool)) hev rfl rfl rfl rho0 w
  · obtain ⟨L, h1, h2, h3, rfl, h5⟩ := arg_of_C dealT_enc rfl (by decide) hr0 hc0 hl
    have hev := pool_ev (l0.map dealT) a1 a2
    rw [show poolV (l0.map dealT) a1 a2 = (r1, r2, r3, r4) from hv] at hev
    have := calls_of_arg mixed Try.func9 CPool_ok (fun B' w => cnOf_ok (pin := 1) (T := TPool)) hev rfl (fun _ => L) w (h5 _)
    have hargs : (denL (fun _ => L) [.all 0, .v (.int .i64 a1), .v (.int .i64 a2)]).toArray = #[.slice (some ⟨L.blk, L.off, none⟩) l0.length c0, .int .i64 a1, .int .i64 a2] := by
      simp only [denL, den, h1, h2, h3, Bool.false_eq_true, if_false]
    rw [hargs] at this
    exact this
end Go.Proofs.Ytdhmhdhfgojofaa.Print
namespace Go.Proofs.Ytdhmhdhfgojofaa.Print
open Go.RowKit Go.Proofs.YtdhmhdhfgojofaaW.PrintWords Go.Proofs.YtdhmhdhfgojofaaW.PrintLast Go.Proofs.YtdhmhdhfgojofaaW.PrintMore
attribute [local go_sem] max2_int min2_int max_two min_two max_three min_three max_four min_four   -- for this text's walks alone
set_option linter.unusedVariables false
set_option linter.unusedSimpArgs false
def octroilaw23_MarginPools.f (k : Nat) (l0 : List (S38)) (a1 : Int) (a2 : Int) : Option (Bool) := if (l0.length : Int) > 200 then ((octroilaw23_lives.f).bind fun t300 => (some t300)) else ((margin_Pool.f l0 a1 a2).bind fun bt301 => ((octroilaw23_plain.f k l0).bind fun t305 => ((octroiref23_Pool.f k t305 a1 a2).bind fun bt308 => (if bt301.1 = bt308.1 then (if bt301.2.1 = bt308.2.1 then (if bt301.2.2.1 = bt308.2.2.1 then (if bt301.2.2.2 = bt308.2.2.2 then (if bt301.1 ≥ 0 then (if bt301.2.1 ≥ 0 then (if bt301.2.2.1 ≥ 0 then (if bt301.2.2.1 = 0 then ((octroilaw23_lives.f).bind fun t312 => (some t312)) else (if (wrap64 (bt301.1 + bt301.2.1)) = 0 then ((octroilaw23_lives.f).bind fun t313 => (some t313)) else (none))) else (none)) else (none)) else (none)) else (none)) else (none)) else (none)) else (none)))))
theorem octroilaw23_MarginPools.mono : ∀ a0 a1 a2 k, LeO (octroilaw23_MarginPools.f k a0 a1 a2) (octroilaw23_MarginPools.f (k + 1) a0 a1 a2) := by
  intro a0 a1 a2 k
  unfold octroilaw23_MarginPools.f
  repeat' first
      | (with_reducible exact octroilaw23_plain.mono _ _)
      | (with_reducible exact octroiref23_Pool.mono _ _ _ _)
      | (with_reducible exact LeO.refl _)
      | (with_reducible exact LeO.none _)
      | (with_reducible refine LeO.ite ?_ ?_)
      | (with_reducible refine LeO.bind ?_ (fun _ => ?_))
      | exact octroilaw23_plain.mono _ _
      | exact octroiref23_Pool.mono _ _ _ _
      | exact LeO.none _
      | refine LeO.ite ?_ ?_
      | refine LeO.bind ?_ (fun _ => ?_)
set_option maxHeartbeats 8000000 in
set_option maxRecDepth 100000 in
theorem octroilaw23_MarginPools.calls (k : Nat) (A0 : Option Addr) (c0 : Nat) (l0 : List (S38)) (a1 : Int) (a2 : Int) (r : Bool) (w : World) (hr0 : Kd.C k38 w A0 l0.length l0) (hc0 : l0.length ≤ c0) (h : octroilaw23_MarginPools.f k l0 a1 a2 = some r) :
    Calls Try.prog 4 #[.slice A0 l0.length c0, .int .i64 a1, .int .i64 a2] w fun e w' => e = .returned (.bool r) ∧ Below w.heap.size w w' := by
  have HR0 := Aside0.mk hr0
  have HC0 := Aside0.mk hc0
  clear hr0 hc0
  have HB := Aside0.mk (Below.refl w.heap.size w)
  have H : (if (l0.length : Int) > 200 then ((octroilaw23_lives.f).bind fun t300 => (some t300)) else ((margin_Pool.f l0 a1 a2).bind fun bt301 => ((octroilaw23_plain.f k l0).bind fun t305 => ((octroiref23_Pool.f k t305 a1 a2).bind fun bt308 => (if bt301.1 = bt308.1 then (if bt301.2.1 = bt308.2.1 then (if bt301.2.2.1 = bt308.2.2.1 then (if bt301.2.2.2 = bt308.2.2.2 then (if bt301.1 ≥ 0 then (if bt301.2.1 ≥ 0 then (if bt301.2.2.1 ≥ 0 then (if bt301.2.2.1 = 0 then ((octroilaw23_lives.f).bind fun t312 => (some t312)) else (if (wrap64 (bt301.1 + bt301.2.1)) = 0 then ((octroilaw23_lives.f).bind fun t313 => (some t313)) else (none))) else (none)) else (none)) else (none)) else (none)) else (none)) else (none)) else (none)))))) = some r := h
  clear h
  by_cases c4 : (l0.length : Int) > 200
  · rw [if_pos c4] at H
    have c4b0 : decide (200 < (l0.length : Int)) = true := decide_eq_true c4
    have c4b1 : decide (200 < l0.length) = true := decide_eq_true (by omega)
    clear c4
    replace H := Option.bind_eq_some_iff.mp H
    obtain ⟨t300, A50, H⟩ := H
    replace H : (some t300) = some r := H
    have A5 := Aside0.mk A50
    clear A50
    obtain rfl := Option.some.inj H
    go_enter Try.func4, Try.ntmps4
    go_wp2_with (first | ((with_reducible refine gate_callee (f := 8) rfl ?_); refine goesL_ (some 18) rfl rfl Try.func8 (by kernel_rfl) rfl #[] rfl (by (try simp only [List.map_toArray, List.map_cons, List.map_nil]); first | done | rfl | (simp only [List.length_drop, List.length_take]; rfl)) ?_; (with_reducible refine (octroilaw23_lives.calls  t300 _ A5.out).mono ?_); rintro e w6 ⟨rfl, hb⟩; refine ⟨_, rfl, ?_⟩; have n0_ := Aside0.mk (below_step (by repeat (first | (with_reducible first | exact HB.out | apply below_alloc | apply pw_below_drewN | apply below_drew1) | exact HB.out)) hb); clear HB; have HB := n0_; clear n0_; (try clear hb); (try clear hb2); (try clear hk); (try clear hi)))
    go_ret
    exact ⟨by first | rfl | (simp [errW_none, errW_some] <;> rfl) | (simp [*, errW_none, errW_some] <;> rfl), by repeat (first | (with_reducible first | exact HB.out | apply below_alloc | apply pw_below_drewN | apply below_drew1) | exact HB.out)⟩
  · rw [if_neg c4] at H
    have c4b0 : decide (200 < (l0.length : Int)) = false := decide_eq_false c4
    have c4b1 : decide (200 < l0.length) = false := decide_eq_false (by omega)
    clear c4
    replace H := Option.bind_eq_some_iff.mp H
    obtain ⟨⟨t301, t302, t303, t304⟩, A70, H⟩ := H
    replace H : ((octroilaw23_plain.f k l0).bind fun t305 => ((octroiref23_Pool.f k t305 a1 a2).bind fun bt308 => (if t301 = bt308.1 then (if t302 = bt308.2.1 then (if t303 = bt308.2.2.1 then (if t304 = bt308.2.2.2 then (if t301 ≥ 0 then (if t302 ≥ 0 then (if t303 ≥ 0 then (if t303 = 0 then ((octroilaw23_lives.f).bind fun t312 => (some t312)) else (if (wrap64 (t301 + t302)) = 0 then ((octroilaw23_lives.f).bind fun t313 => (some t313)) else (none))) else (none)) else (none)) else (none)) else (none)) else (none)) else (none)) else (none)))) = some r := H
    have A7 := Aside0.mk A70
    clear A70
    replace H := Option.bind_eq_some_iff.mp H
    obtain ⟨t305, A80, H⟩ := H
    replace H : ((octroiref23_Pool.f k t305 a1 a2).bind fun bt308 => (if t301 = bt308.1 then (if t302 = bt308.2.1 then (if t303 = bt308.2.2.1 then (if t304 = bt308.2.2.2 then (if t301 ≥ 0 then (if t302 ≥ 0 then (if t303 ≥ 0 then (if t303 = 0 then ((octroilaw23_lives.f).bind fun t312 => (some t312)) else (if (wrap64 (t301 + t302)) = 0 then ((octroilaw23_lives.f).bind fun t313 => (some t313)) else (none))) else (none)) else (none)) else (none)) else (none)) else (none)) else (none)) else (none))) = some r := H
    have A8 := Aside0.mk A80
    clear A80
    replace H := Option.bind_eq_some_iff.mp H
    obtain ⟨⟨t308, t309, t310, t311⟩, A90, H⟩ := H
    replace H : (if t301 = t308 then (if t302 = t309 then (if t303 = t310 then (if t304 = t311 then (if t301 ≥ 0 then (if t302 ≥ 0 then (if t303 ≥ 0 then (if t303 = 0 then ((octroilaw23_lives.f).bind fun t312 => (some t312)) else (if (wrap64 (t301 + t302)) = 0 then ((octroilaw23_lives.f).bind fun t313 => (some t313)) else (none))) else (none)) else (none)) else (none)) else (none)) else (none)) else (none)) else (none)) = some r := H
    have A9 := Aside0.mk A90
    clear A90
    by_cases c10 : t301 = t308
    · rw [if_pos c10] at H
      have c10b0 : (t301 == t308) = true := beq_iff_eq.mpr c10
      have c10b1 : (t301 != t308) = false := bne_eq_false_iff_eq.mpr c10
      clear c10
      by_cases c11 : t302 = t309
      · rw [if_pos c11] at H
        have c11b0 : (t302 == t309) = true := beq_iff_eq.mpr c11
        have c11b1 : (t302 != t309) = false := bne_eq_false_iff_eq.mpr c11
        clear c11
        by_cases c12 : t303 = t310
        · rw [if_pos c12] at H
          have c12b0 : (t303 == t310) = true := beq_iff_eq.mpr c12
          have c12b1 : (t303 != t310) = false := bne_eq_false_iff_eq.mpr c12
          clear c12
          by_cases c13 : t304 = t311
          · rw [if_pos c13] at H
            have c13b0 : (t304 == t311) = true := beq_iff_eq.mpr c13
            have c13b1 : (t304 != t311) = false := bne_eq_false_iff_eq.mpr c13
            clear c13
            by_cases c14 : t301 ≥ 0
            · rw [if_pos c14] at H
              have c14b0 : decide (0 ≤ t301) = true := decide_eq_true c14
              clear c14
              by_cases c15 : t302 ≥ 0
              · rw [if_pos c15] at H
                have c15b0 : decide (0 ≤ t302) = true := decide_eq_true c15
                clear c15
                by_cases c16 : t303 ≥ 0
                · rw [if_pos c16] at H
                  have c16b0 : decide (0 ≤ t303) = true := decide_eq_true c16
                  clear c16
                  by_cases c17 : t303 = 0
                  · rw [if_pos c17] at H
                    have c17b0 : (t303 == 0) = true := beq_iff_eq.mpr c17
                    have c17b1 : (t303 != 0) = false := bne_eq_false_iff_eq.mpr c17
                    clear c17
                    replace H := Option.bind_eq_some_iff.mp H
                    obtain ⟨t312, A180, H⟩ := H
                    replace H : (some t312) = some r := H
                    have A18 := Aside0.mk A180
                    clear A180
                    obtain rfl := Option.some.inj H
                    go_enter Try.func4, Try.ntmps4
                    go_wp2_with (first | ((with_reducible refine gate_callee (f := 9) rfl ?_); refine goesL_ (some 23) rfl rfl Try.func9 (by kernel_rfl) rfl #[.slice A0 l0.length c0, .int .i64 a1, .int .i64 a2] rfl (by (try simp only [List.map_toArray, List.map_cons, List.map_nil]); first | done | rfl | (simp only [List.length_drop, List.length_take]; rfl)) ?_; (with_reducible refine (margin_Pool.calls _ _ l0 a1 a2 t301 t302 t303 t304 _ ?side1 ?side2 A7.out).mono ?_); (case side1 => repeat (first | exact HR0.out | (with_reducible refine Kd.C_alloc ?_ _) | (with_reducible refine Kd.C_drewN ?_ _) | (with_reducible refine Kd.C_drew ?_))); (case side2 => exact HC0.out); rintro e w19 ⟨rfl, hb⟩; refine ⟨_, rfl, ?_⟩; have n0_ := Aside0.mk (below_step (by repeat (first | (with_reducible first | exact HB.out | apply below_alloc | apply pw_below_drewN | apply below_drew1) | exact HB.out)) hb); clear HB; have HB := n0_; clear n0_; (try clear hb); (try clear hb2); (try clear hk); (try clear hi)) | ((with_reducible refine gate_callee (f := 11) rfl ?_); refine goesL_ (some 30) rfl rfl Try.func11 (by kernel_rfl) rfl #[.slice A0 l0.length c0] rfl (by (try simp only [List.map_toArray, List.map_cons, List.map_nil]); first | done | rfl | (simp only [List.length_drop, List.length_take]; rfl)) ?_; (with_reducible refine (octroilaw23_plain.calls k _ _ l0 t305 _ ?side1 ?side2 A8.out).mono ?_); (case side1 => repeat (first | exact (Kd.C_below HR0.out HB.out) | (with_reducible refine Kd.C_alloc ?_ _) | (with_reducible refine Kd.C_drewN ?_ _) | (with_reducible refine Kd.C_drew ?_))); (case side2 => exact HC0.out); rintro e w20 ⟨v306, rfl, ho0, hb⟩; refine ⟨_, rfl, ?_⟩; have n0_ := Aside0.mk (Kd.R_lower ho0 (below_size (by repeat (first | (with_reducible first | exact HB.out | apply below_alloc | apply pw_below_drewN | apply below_drew1) | exact HB.out)))); have n1_ := Aside0.mk (below_step (by repeat (first | (with_reducible first | exact HB.out | apply below_alloc | apply pw_below_drewN | apply below_drew1) | exact HB.out)) hb); clear HB; have HO307 := n0_; have HB := n1_; clear n0_ n1_; (try clear hb); (try clear hb2); (try clear hk); (try clear hi); (try clear ho0); obtain ⟨Ao21, co21, eo21⟩ := Kd.R_slice HO307.out; subst eo21) | ((with_reducible refine gate_callee (f := 10) rfl ?_); refine goesL_ (some 33) rfl rfl Try.func10 (by kernel_rfl) rfl #[.slice Ao21 t305.length co21, .int .i64 a1, .int .i64 a2] rfl (by (try simp only [List.map_toArray, List.map_cons, List.map_nil]); first | done | rfl | (simp only [List.length_drop, List.length_take]; rfl)) ?_; (with_reducible refine (octroiref23_Pool.calls k _ _ t305 a1 a2 t308 t309 t310 t311 _ ?side1 ?side2 A9.out).mono ?_); (case side1 => repeat (first | exact (Kd.R_reads' HO307.out).2.2 | (with_reducible refine Kd.C_alloc ?_ _) | (with_reducible refine Kd.C_drewN ?_ _) | (with_reducible refine Kd.C_drew ?_))); (case side2 => exact (Kd.R_reads' HO307.out).2.1); rintro e w22 ⟨rfl, hb⟩; refine ⟨_, rfl, ?_⟩; have n0_ := Aside0.mk (Kd.R_below (by (with_reducible repeat (first | apply Kd.R_alloc | apply Kd.R_drewN | apply Kd.R_drew)); exact HO307.out) hb); have n1_ := Aside0.mk (below_step (by repeat (first | (with_reducible first | exact HB.out | apply below_alloc | apply pw_below_drewN | apply below_drew1) | exact HB.out)) hb); clear HO307; clear HB; have HO307 := n0_; have HB := n1_; clear n0_ n1_; (try clear hb); (try clear hb2); (try clear hk); (try clear hi)) | (go_at_call 8; (with_reducible refine (octroilaw23_lives.calls  t312 _ A18.out).mono ?_); rintro e w23 ⟨rfl, hb⟩; have n0_ := Aside0.mk (Kd.R_below (by (with_reducible repeat (first | apply Kd.R_alloc | apply Kd.R_drewN | apply Kd.R_drew)); exact HO307.out) hb); have n1_ := Aside0.mk (below_step (by repeat (first | (with_reducible first | exact HB.out | apply below_alloc | apply pw_below_drewN | apply below_drew1) | exact HB.out)) hb); clear HO307; clear HB; have HO307 := n0_; have HB := n1_; clear n0_ n1_; (try clear hb); (try clear hb2); (try clear hk); (try clear hi)))
                    go_ret
                    exact ⟨by first | rfl | (simp [errW_none, errW_some] <;> rfl) | (simp [*, errW_none, errW_some] <;> rfl), by repeat (first | (with_reducible first | exact HB.out | apply below_alloc | apply pw_below_drewN | apply below_drew1) | exact HB.out)⟩
                  · rw [if_neg c17] at H
                    have c17b0 : (t303 == 0) = false := beq_eq_false_iff_ne.mpr c17
                    have c17b1 : (t303 != 0) = true := bne_iff_ne.mpr c17
                    by_cases c24 : (wrap64 (t301 + t302)) = 0
                    · rw [if_pos c24] at H
                      have c24b0 : ((wrap64 (t301 + t302)) == 0) = true := beq_iff_eq.mpr c24
                      have c24b1 : ((wrap64 (t301 + t302)) != 0) = false := bne_eq_false_iff_eq.mpr c24
                      clear c24
                      replace H := Option.bind_eq_some_iff.mp H
                      obtain ⟨t313, A250, H⟩ := H
                      replace H : (some t313) = some r := H
                      have A25 := Aside0.mk A250
                      clear A250
                      obtain rfl := Option.some.inj H
                      go_enter Try.func4, Try.ntmps4
                      go_wp2_with (first | ((with_reducible refine gate_callee (f := 9) rfl ?_); refine goesL_ (some 23) rfl rfl Try.func9 (by kernel_rfl) rfl #[.slice A0 l0.length c0, .int .i64 a1, .int .i64 a2] rfl (by (try simp only [List.map_toArray, List.map_cons, List.map_nil]); first | done | rfl | (simp only [List.length_drop, List.length_take]; rfl)) ?_; (with_reducible refine (margin_Pool.calls _ _ l0 a1 a2 t301 t302 t303 t304 _ ?side1 ?side2 A7.out).mono ?_); (case side1 => repeat (first | exact HR0.out | (with_reducible refine Kd.C_alloc ?_ _) | (with_reducible refine Kd.C_drewN ?_ _) | (with_reducible refine Kd.C_drew ?_))); (case side2 => exact HC0.out); rintro e w26 ⟨rfl, hb⟩; refine ⟨_, rfl, ?_⟩; have n0_ := Aside0.mk (below_step (by repeat (first | (with_reducible first | exact HB.out | apply below_alloc | apply pw_below_drewN | apply below_drew1) | exact HB.out)) hb); clear HB; have HB := n0_; clear n0_; (try clear hb); (try clear hb2); (try clear hk); (try clear hi)) | ((with_reducible refine gate_callee (f := 11) rfl ?_); refine goesL_ (some 30) rfl rfl Try.func11 (by kernel_rfl) rfl #[.slice A0 l0.length c0] rfl (by (try simp only [List.map_toArray, List.map_cons, List.map_nil]); first | done | rfl | (simp only [List.length_drop, List.length_take]; rfl)) ?_; (with_reducible refine (octroilaw23_plain.calls k _ _ l0 t305 _ ?side1 ?side2 A8.out).mono ?_); (case side1 => repeat (first | exact (Kd.C_below HR0.out HB.out) | (with_reducible refine Kd.C_alloc ?_ _) | (with_reducible refine Kd.C_drewN ?_ _) | (with_reducible refine Kd.C_drew ?_))); (case side2 => exact HC0.out); rintro e w27 ⟨v306, rfl, ho0, hb⟩; refine ⟨_, rfl, ?_⟩; have n0_ := Aside0.mk (Kd.R_lower ho0 (below_size (by repeat (first | (with_reducible first | exact HB.out | apply below_alloc | apply pw_below_drewN | apply below_drew1) | exact HB.out)))); have n1_ := Aside0.mk (below_step (by repeat (first | (with_reducible first | exact HB.out | apply below_alloc | apply pw_below_drewN | apply below_drew1) | exact HB.out)) hb); clear HB; have HO307 := n0_; have HB := n1_; clear n0_ n1_; (try clear hb); (try clear hb2); (try clear hk); (try clear hi); (try clear ho0); obtain ⟨Ao28, co28, eo28⟩ := Kd.R_slice HO307.out; subst eo28) | ((with_reducible refine gate_callee (f := 10) rfl ?_); refine goesL_ (some 33) rfl rfl Try.func10 (by kernel_rfl) rfl #[.slice Ao28 t305.length co28, .int .i64 a1, .int .i64 a2] rfl (by (try simp only [List.map_toArray, List.map_cons, List.map_nil]); first | done | rfl | (simp only [List.length_drop, List.length_take]; rfl)) ?_; (with_reducible refine (octroiref23_Pool.calls k _ _ t305 a1 a2 t308 t309 t310 t311 _ ?side1 ?side2 A9.out).mono ?_); (case side1 => repeat (first | exact (Kd.R_reads' HO307.out).2.2 | (with_reducible refine Kd.C_alloc ?_ _) | (with_reducible refine Kd.C_drewN ?_ _) | (with_reducible refine Kd.C_drew ?_))); (case side2 => exact (Kd.R_reads' HO307.out).2.1); rintro e w29 ⟨rfl, hb⟩; refine ⟨_, rfl, ?_⟩; have n0_ := Aside0.mk (Kd.R_below (by (with_reducible repeat (first | apply Kd.R_alloc | apply Kd.R_drewN | apply Kd.R_drew)); exact HO307.out) hb); have n1_ := Aside0.mk (below_step (by repeat (first | (with_reducible first | exact HB.out | apply below_alloc | apply pw_below_drewN | apply below_drew1) | exact HB.out)) hb); clear HO307; clear HB; have HO307 := n0_; have HB := n1_; clear n0_ n1_; (try clear hb); (try clear hb2); (try clear hk); (try clear hi)) | (go_at_call 8; (with_reducible refine (octroilaw23_lives.calls  t313 _ A25.out).mono ?_); rintro e w30 ⟨rfl, hb⟩; have n0_ := Aside0.mk (Kd.R_below (by (with_reducible repeat (first | apply Kd.R_alloc | apply Kd.R_drewN | apply Kd.R_drew)); exact HO307.out) hb); have n1_ := Aside0.mk (below_step (by repeat (first | (with_reducible first | exact HB.out | apply below_alloc | apply pw_below_drewN | apply below_drew1) | exact HB.out)) hb); clear HO307; clear HB; have HO307 := n0_; have HB := n1_; clear n0_ n1_; (try clear hb); (try clear hb2); (try clear hk); (try clear hi)))
                      go_ret
                      exact ⟨by first | rfl | (simp [errW_none, errW_some] <;> rfl) | (simp [*, errW_none, errW_some] <;> rfl), by repeat (first | (with_reducible first | exact HB.out | apply below_alloc | apply pw_below_drewN | apply below_drew1) | exact HB.out)⟩
                    · rw [if_neg c24] at H
                      exact absurd H (by simp)
                · rw [if_neg c16] at H
                  exact absurd H (by simp)
              · rw [if_neg c15] at H
                exact absurd H (by simp)
            · rw [if_neg c14] at H
              exact absurd H (by simp)
          · rw [if_neg c13] at H
            exact absurd H (by simp)
        · rw [if_neg c12] at H
          exact absurd H (by simp)
      · rw [if_neg c11] at H
        exact absurd H (by simp)
    · rw [if_neg c10] at H
      exact absurd H (by simp)
end Go.Proofs.Ytdhmhdhfgojofaa.Print
namespace Go.Proofs.Ytdhmhdhfgojofaa.Print
open Go.RowKit Go.Proofs.YtdhmhdhfgojofaaW.PrintWords Go.Proofs.YtdhmhdhfgojofaaW.PrintLast
def octroilaw23_MarginPools.Pure : Prop := ∀ (l0 : List (S38)) (a1 : Int) (a2 : Int), l0.length ≤ maxLen → l0.length * 16 ≤ 140737488351232 → (∀ x ∈ l0, ((Lit.int .i64 x.f0).wf = true ∧ (Lit.int .i64 x.f1).wf = true)) → (Lit.int .i64 a1).wf = true → (Lit.int .i64 a2).wf = true → ∃ k, octroilaw23_MarginPools.f k l0 a1 a2 = some true
end Go.Proofs.Ytdhmhdhfgojofaa.Print
namespace Go.Proofs.Ytdhmhdhfgojofaa.Print
open Go.RowKit Go.Proofs.YtdhmhdhfgojofaaW.PrintWords Go.Proofs.YtdhmhdhfgojofaaW.PrintLast Go.Proofs.YtdhmhdhfgojofaaW.PrintMore
attribute [local go_sem] max2_int min2_int max_two min_two max_three min_three max_four min_four   -- for this text's walks alone
set_option linter.unusedVariables false
set_option linter.unusedSimpArgs false
end Go.Proofs.Ytdhmhdhfgojofaa.Print
namespace Go.Proofs.Ytdhmhdhfgojofaa.Print
open Go.RowKit Go.Proofs.YtdhmhdhfgojofaaW.PrintWords Go.Proofs.YtdhmhdhfgojofaaW.PrintLast Go.Proofs.YtdhmhdhfgojofaaW.PrintMore
set_option linter.unusedVariables false
set_option linter.unusedSimpArgs false
theorem of_ev_may (a : Int) (h : mayB a = true) : ∃ n l, Ev (fun k => octroiref01_Of.f k a) (n, l) ∧ IsNum n l a ∧ l.length ≤ 3 := by
  rw [mayB_iff] at h
  exact of_ev a (by omega) (by omega)
theorem int_loop (n : Bool) (l : List Int) (h : Dig l) (hv : dval l ≤ 4611686018427387904) (hl : l.length ≤ 1000000010) : ∀ (i : Nat) (x : Int), i ≤ l.length → x = dval (l.drop i) → 
    Ev (fun k => octroiref01_Int.l0 k x ((i : Int) - 1) n l) (if n = true then -dval l else dval l, true) := by
  intro i
  induction i with
  | zero =>
    intro x hi hx
    rw [List.drop_zero] at hx
    subst hx
    have h0 := dval_0 h
    refine Ev.step (f := fun _ => some (if n = true then -dval l else dval l, true)) (fun k => ?_) (Ev.now _)
    simp only [octroiref01_Int.l0]
    rw [if_neg (by omega)]
    cases n with
    | true => rw [if_pos rfl, w64 (by omega) (by omega)]; rfl
    | false => rw [if_neg (by simp)]; rfl
  | succ i ih =>
    intro x hi hx
    have e : ((i + 1 : Nat) : Int) - 1 = (i : Int) := by omega
    have hr := h.rd i (by omega)
    have hd := drop_rd l i (by omega)
    have hle : dval (l.drop i) ≤ dval l := by
      have h1 := dval_append (l.take i) (l.drop i)
      rw [List.take_append_drop] at h1
      have h2 := dval_0 (h.take i)
      have h3 := dval_0 (h.drop i)
      have h4 : 1 * dval (l.drop i) ≤ 2147483648 ^ (l.take i).length * dval (l.drop i) := Int.mul_le_mul_of_nonneg_right (by have := pow_pos' (l.take i).length; omega) h3
      omega
    have h0 := dval_0 (h.drop (i + 1))
    rw [hd] at hle
    simp only [dval] at hle
    rw [← hx] at hle h0
    have := ih (x * 2147483648 + rd l i) (by omega) (by rw [hd]; simp only [dval]; rw [← hx]; omega)
    refine Ev.step (fun k => ?_) this
    simp only [octroiref01_Int.l0]
    rw [e, if_pos (by omega), if_pos (by omega), if_pos (by omega), w64 (x := x * 2147483648) (by omega) (by omega), w64 (x := x * 2147483648 + rd l i) (by omega) (by omega), w64 (x := (i : Int) - 1) (by omega) (by omega)]
theorem int_ev (n : Bool) (l : List Int) (v : Int) (h : IsNum n l v) (hl : l.length ≤ 1000000010) :
    Ev (fun k => octroiref01_Int.f k n l) (if mayB v = true then (v, true) else (0, false)) := by
  obtain ⟨mn, ml, hm, im, lm⟩ := of_ev 4611686018427387904 (by omega) (by omega)
  obtain ⟨r, hr, ht⟩ := cmp_ev l ml h.dig im.dig h.nz im.nz hl (by omega)
  have ha := h.abs
  have hb := im.abs
  rw [if_neg (by omega)] at hb
  have hmay := mayB_iff v
  unfold Tells at ht
  by_cases rp : r > 0
  · have hno : ¬ (mayB v = true) := by
      rw [hmay]
      have := ht.1.1 rp
      split at ha <;> omega
    rw [if_neg hno]
    have := evb hm (f := fun bt k => (octroiref01_cmp.f k l bt.2).bind fun t => (if t > 0 then (some (0, false)) else (octroiref01_Int.l0 k 0 (wrap64 ((l.length : Int) - 1)) n l)))
      (evb hr (f := fun t k => (if t > 0 then (some (0, false)) else (octroiref01_Int.l0 k 0 (wrap64 ((l.length : Int) - 1)) n l))) (evn (fun k => by rw [if_pos rp])))
    exact this
  · have hle : dval l ≤ 4611686018427387904 := by
      have := ht.1
      omega
    have hyes : mayB v = true := by
      rw [hmay]
      split at ha <;> omega
    rw [if_pos hyes]
    have hlp := int_loop n l h.dig hle hl l.length 0 (Nat.le_refl _) (by rw [List.drop_eq_nil_of_le (Nat.le_refl _)]; rfl)
    rw [← h.val] at hlp
    have := evb hm (f := fun bt k => (octroiref01_cmp.f k l bt.2).bind fun t => (if t > 0 then (some (0, false)) else (octroiref01_Int.l0 k 0 (wrap64 ((l.length : Int) - 1)) n l)))
      (evb hr (f := fun t k => (if t > 0 then (some (0, false)) else (octroiref01_Int.l0 k 0 (wrap64 ((l.length : Int) - 1)) n l))) (Ev.congr (fun k => by rw [if_neg rp, w64 (by omega) (by omega)]) hlp))
    exact this
theorem ref_may (a : Int) : octroiref01_May.f a = some (mayB a) := by
  unfold octroiref01_May.f mayB
  by_cases h : a ≥ -4611686018427387904
  · rw [if_pos h, decide_eq_true (p := -4611686018427387904 ≤ a) h]; rfl
  · rw [if_neg h, decide_eq_false (p := -4611686018427387904 ≤ a) h]; rfl
theorem sum_loop (l : List Int) (hl : l.length ≤ 1000000) (d : Nat) : ∀ (i : Nat) (n : Bool) (q : List Int) (s : Int), i + d = l.length → IsNum n q s → q.length ≤ 10 + i →
    Ev (fun k => octroiref01_Sum.l0 k l (i : Int) n q) (sumV ((l.drop i).all mayB) (s + (l.drop i).sum)) := by
  induction d with
  | zero =>
    intro i n q s hi hq hlen
    rw [List.drop_eq_nil_of_le (by omega)]
    simp only [List.all_nil, List.sum_nil, Int.add_zero, sumV, cond_true]
    have := evb (int_ev n q s hq (by omega)) (β := Int × Int) (f := fun bt _ => if bt.2 = true then (some (bt.1, 0)) else (some (0, 3))) (r := bif mayB s then (s, 0) else (0, 3)) (evn (fun k => by cases mayB s <;> simp))
    refine Ev.step (fun k => ?_) this
    simp only [octroiref01_Sum.l0]
    rw [if_neg (by omega)]
  | succ d ih =>
    intro i n q s hi hq hlen
    have hw : wrap64 ((i : Int) + 1) = ((i + 1 : Nat) : Int) := by rw [w64 (by omega) (by omega)]; omega
    rw [drop_rd l i (by omega)]
    simp only [List.all_cons, List.sum_cons]
    by_cases hm : mayB (rd l i) = true
    rotate_left
    · rw [Bool.not_eq_true] at hm
      rw [hm]
      simp only [Bool.false_and, sumV, cond_false]
      refine Ev.step (f := fun _ => some (0, 2)) (fun k => ?_) (Ev.now _)
      simp only [octroiref01_Sum.l0]
      rw [if_pos (by omega), if_pos (by omega), ref_may, hm]
      simp
    · obtain ⟨n1, l1, h1, i1, b1⟩ := of_ev_may _ hm
      rw [hm]
      simp only [Bool.true_and]
      obtain ⟨n2, l2, h2, i2, b2⟩ := add_ev n n1 q l1 s _ hq i1 (by omega) (by omega)
      have := ih (i + 1) n2 l2 (s + rd l i) (by omega) i2 (by omega)
      rw [Int.add_assoc] at this
      refine Ev.step (fun k => ?_) (evb h1 (f := fun bt k => (octroiref01_Add.f k n q bt.1 bt.2).bind fun bt => (octroiref01_Sum.l0 k l ((i + 1 : Nat) : Int) bt.1 bt.2)) (evb h2 (f := fun bt k => octroiref01_Sum.l0 k l ((i + 1 : Nat) : Int) bt.1 bt.2) this))
      simp only [octroiref01_Sum.l0]
      rw [if_pos (by omega), if_pos (by omega), ref_may, hm, hw]
      simp
theorem sum_ev (l : List Int) (hl : l.length ≤ 1000000) : Ev (fun k => octroiref01_Sum.f k l) (money_Sum.v l) := by
  have := sum_loop l hl l.length 0 false [] 0 (by omega) IsNum.zero (by simp)
  simpa [octroiref01_Sum.f, money_Sum.v] using this
end Go.Proofs.Ytdhmhdhfgojofaa.Print
namespace Go.Proofs.Ytdhmhdhfgojofaa.Print
open Go.RowKit Go.Proofs.YtdhmhdhfgojofaaW.PrintWords Go.Proofs.YtdhmhdhfgojofaaW.PrintLast
set_option linter.unusedVariables false
set_option linter.unusedSimpArgs false
theorem ref_tax (a b : Int) : octroiref02_Tax.f a b = some (Ax.taxV a b) := by
  unfold octroiref02_Tax.f octroiref02_MulDiv.f Ax.taxV Ax.bpB
  by_cases h1 : b < 0
  · rw [if_pos h1, decide_eq_false (show ¬ 0 ≤ b by omega)]; rfl
  · rw [if_neg h1, decide_eq_true (show 0 ≤ b by omega)]
    by_cases h2 : b > 10000
    · rw [if_pos h2, decide_eq_false (show ¬ b ≤ 10000 by omega)]; rfl
    · rw [if_neg h2, decide_eq_true (show b ≤ 10000 by omega)]; rfl
theorem ref_inside (a b : Int) : octroiref02_Inside.f a b = some (Ax.insideV a b) := by
  unfold octroiref02_Inside.f octroiref02_MulDiv.f Ax.insideV Ax.bpB
  by_cases h1 : b < 0
  · rw [if_pos h1, decide_eq_false (show ¬ 0 ≤ b by omega)]; rfl
  · rw [if_neg h1, decide_eq_true (show 0 ≤ b by omega)]
    by_cases h2 : b > 10000
    · rw [if_pos h2, decide_eq_false (show ¬ b ≤ 10000 by omega)]; rfl
    · have hw : wrap64 (10000 + b) = 10000 + b := by unfold wrap64; omega
      rw [if_neg h2, decide_eq_true (show b ≤ 10000 by omega), hw]; rfl
theorem part_arg (a : Int) (g : Bool) (b : Int) (h : Ax.mayB a = false ∨ Ax.bpB b = false) : Ax.partV a g b = (0, 0, 2) := by
  have ht : Ax.taxV a b = (0, 2) := by
    unfold Ax.taxV
    rcases h with h | h
    · cases Ax.bpB b with
      | false => rfl
      | true => exact Ax.mulDiv_no _ _ _ (by rw [h]; rfl)
    · rw [h]; rfl
  have hi : Ax.insideV a b = (0, 2) := by
    unfold Ax.insideV
    rcases h with h | h
    · cases Ax.bpB b with
      | false => rfl
      | true => exact Ax.mulDiv_no _ _ _ (by rw [h]; rfl)
    · rw [h]; rfl
  cases g with
  | true => show Ax.insV a b = _; unfold Ax.insV; rw [hi]; rfl
  | false => show Ax.uponV a b = _; unfold Ax.uponV; rw [ht]; rfl
theorem ref_part_j (a : Int) (g : Bool) (b : Int) (ha : Ax.mayB a = true) (hb : Ax.bpB b = true) : Ev (fun k => octroiref21_Part.j0 k a g b false) (Ax.partV a g b) := by
  cases g with
  | true =>
    refine Ev.step (f := fun _ => some (Ax.partV a true b)) (fun k => ?_) (Ev.now _)
    simp only [octroiref21_Part.j0, Bool.false_eq_true, if_false, if_true, ref_inside, Option.bind_some]
    show _ = some (Ax.insV a b)
    unfold Ax.insV
    rw [Ax.insideV_ok a b ha hb, Ax.wrapI]; rfl
  | false =>
    have hs := sum_ev [a, (Ax.taxV a b).1] (by simp)
    refine Ev.step (fun k => ?_) (evb hs (β := Int × Int × Int) (f := fun bt _ => if bt.2 = 0 then some (a, (Ax.taxV a b).1, 0) else some (0, 0, bt.2)) (r := Ax.partV a false b) (evn (fun k => ?_)))
    · simp only [octroiref21_Part.j0, Bool.false_eq_true, if_false, ref_tax, Option.bind_some]
    · show _ = some (Ax.uponV a b)
      unfold Ax.uponV
      rw [Ax.taxV_ok a b ha hb]
      show _ = some (bif (Ax.smV [a, (Ax.taxV a b).1]).2 != 0 then (0, 0, (Ax.smV [a, (Ax.taxV a b).1]).2) else (a, (Ax.taxV a b).1, 0))
      show (if (Ax.smV [a, (Ax.taxV a b).1]).2 = 0 then _ else _) = _
      by_cases hz : (Ax.smV [a, (Ax.taxV a b).1]).2 = 0
      · rw [if_pos hz, hz]; rfl
      · rw [if_neg hz, show ((Ax.smV [a, (Ax.taxV a b).1]).2 != 0) = true by simpa using hz]; rfl
theorem ref_may' (a : Int) : octroiref01_May.f a = some (Ax.mayB a) := ref_may a
theorem ref_part_ev (a : Int) (g : Bool) (b : Int) : Ev (fun k => octroiref21_Part.f k a g b) (Ax.partV a g b) := by
  have no : Ax.mayB a = false ∨ Ax.bpB b = false → Ev (fun k => octroiref21_Part.j0 k a g b true) (Ax.partV a g b) := fun h => by
    rw [part_arg a g b h]
    refine Ev.step (f := fun _ => some (0, 0, 2)) (fun k => ?_) (Ev.now _)
    simp only [octroiref21_Part.j0, if_true]
  cases ha : Ax.mayB a with
  | false =>
    refine Ev.congr (fun k => ?_) (no (.inl ha))
    simp only [octroiref21_Part.f, ref_may', ha, Option.bind_some, Bool.false_eq_true, if_false]
  | true =>
    by_cases h1 : b < 0
    · refine Ev.congr (fun k => ?_) (no (.inr (by unfold Ax.bpB; rw [decide_eq_false (show ¬ 0 ≤ b by omega)]; rfl)))
      simp only [octroiref21_Part.f, ref_may', ha, Option.bind_some, if_true, if_pos h1]
    · by_cases h2 : b > 10000
      · refine Ev.congr (fun k => ?_) (no (.inr (by unfold Ax.bpB; rw [decide_eq_false (show ¬ b ≤ 10000 by omega), Bool.and_false])))
        simp only [octroiref21_Part.f, ref_may', ha, Option.bind_some, if_true, if_neg h1, decide_eq_true h2]
      · refine Ev.congr (fun k => ?_) (ref_part_j a g b ha ((Ax.bpB_iff b).2 (by omega)))
        simp only [octroiref21_Part.f, ref_may', ha, Option.bind_some, if_true, if_neg h1, decide_eq_false h2]
end Go.Proofs.Ytdhmhdhfgojofaa.Print
namespace Go.Proofs.Ytdhmhdhfgojofaa.Ax
open Go Go.RowKit
theorem insV_nn (a b : Int) (ha : 0 ≤ a ∧ a ≤ 4611686018427387904) (hb : 0 ≤ b ∧ b ≤ 10000) : ∃ t, insV a b = (a - t, t, 0) ∧ 0 ≤ t ∧ t ≤ a := by
  have hl := ins_le a b ha.1 hb
  have hn := half_nn (a * b) (10000 + b) (Int.mul_nonneg ha.1 hb.1) (by omega)
  refine ⟨halfV (a * b) (10000 + b), ?_, hn, hl⟩
  unfold insV insideV
  rw [(bpB_iff b).2 hb]
  simp only [cond_true]
  rw [mulDiv_pos a b (10000 + b) ha (by omega) (by omega) (by omega)]
  simp only [bne_self_eq_false, cond_false, wrapI]
  rw [wrap64_id (by omega) (by omega)]
theorem smV_bd (r : List Int) (h : (smV r).2 = 0) : -4611686018427387904 ≤ (smV r).1 ∧ (smV r).1 ≤ 4611686018427387904 := by
  unfold smV Print.money_Sum.v Print.sumV at *
  cases h1 : r.all Print.mayB with
  | false => rw [h1] at h; cases h
  | true =>
    rw [h1] at h
    simp only [cond_true] at h ⊢
    cases h2 : Print.mayB r.sum with
    | false => rw [h2] at h; cases h
    | true => exact (Print.mayB_iff _).1 h2
theorem finV_nn (r : List Int) (bp : Int) (hb : 0 ≤ bp ∧ bp ≤ 10000) : 0 ≤ (finV r bp).1 ∧ 0 ≤ (finV r bp).2.1 ∧ 0 ≤ (finV r bp).2.2.1 ∧ ((finV r bp).2.2.1 = 0 ∨ (finV r bp).1 = 0 ∧ (finV r bp).2.1 = 0) := by
  unfold finV
  by_cases h : (smV r).2 = 0
  · have hd := smV_bd r h
    rw [h]
    simp only [bne_self_eq_false, cond_false]
    by_cases hn : (smV r).1 < 0
    · rw [decide_eq_true hn]
      simp only [cond_true, wrapI]
      rw [wrap64_id (by omega) (by omega)]
      refine ⟨Int.le_refl _, Int.le_refl _, by omega, .inr ?_⟩
      exact ⟨by trivial, by trivial⟩
    · rw [decide_eq_false hn]
      simp only [cond_false]
      obtain ⟨t, h1, h2, h3⟩ := insV_nn (smV r).1 bp (by omega) hb
      have hp : partV (smV r).1 true bp = ((smV r).1 - t, t, 0) := h1
      rw [hp]
      refine ⟨?_, h2, Int.le_refl _, .inl ?_⟩
      · show 0 ≤ (smV r).1 - t; omega
      · trivial
  · rw [show ((smV r).2 != 0) = true by simpa using h]
    simp only [cond_true]
    exact ⟨Int.le_refl _, Int.le_refl _, Int.le_refl _, .inl (by trivial)⟩
theorem poolV_nn (l : List I2) (bp carry : Int) : 0 ≤ (poolV l bp carry).1 ∧ 0 ≤ (poolV l bp carry).2.1 ∧ 0 ≤ (poolV l bp carry).2.2.1 ∧ ((poolV l bp carry).2.2.1 = 0 ∨ (poolV l bp carry).1 = 0 ∧ (poolV l bp carry).2.1 = 0) := by
  have zero : 0 ≤ ((0, 0, 0, 2) : Int × Int × Int × Int).1 ∧ 0 ≤ ((0, 0, 0, 2) : Int × Int × Int × Int).2.1 ∧ 0 ≤ ((0, 0, 0, 2) : Int × Int × Int × Int).2.2.1 ∧ (((0, 0, 0, 2) : Int × Int × Int × Int).2.2.1 = 0 ∨ ((0, 0, 0, 2) : Int × Int × Int × Int).1 = 0 ∧ ((0, 0, 0, 2) : Int × Int × Int × Int).2.1 = 0) := ⟨Int.le_refl _, Int.le_refl _, Int.le_refl _, .inl rfl⟩
  unfold poolV
  cases decide (1048576 < (l.length : Int)) with
  | true => exact zero
  | false =>
    cases decide (carry < 0) with
    | true => exact zero
    | false =>
      cases mayB carry with
      | false => exact zero
      | true =>
        cases hb : bpB bp with
        | false => exact zero
        | true =>
          cases l.all dB with
          | false => exact zero
          | true => exact finV_nn _ bp ((bpB_iff bp).1 hb)
end Go.Proofs.Ytdhmhdhfgojofaa.Ax
namespace Go.Proofs.Ytdhmhdhfgojofaa.Pure
open Go.RowKit Go.Proofs.Ytdhmhdhfgojofaa.Print Go.Proofs.YtdhmhdhfgojofaaW.PrintWords Go.Proofs.YtdhmhdhfgojofaaW.PrintLast
set_option linter.unusedVariables false
set_option linter.unusedSimpArgs false
theorem wrp64 {x : Int} (h : -9223372036854775808 ≤ x) (h2 : x < 9223372036854775808) : wrap64 x = x := by unfold wrap64; omega
theorem pools_lives : octroilaw23_lives.f = some true := by kernel_rfl
def cvt (d : S38) : S44 := ⟨d.f0, d.f1⟩
def d44 (d : S44) : Ax.I2 := (d.f0, d.f1)
theorem plain_loop (l : List S38) (hl : l.length ≤ 200) : ∀ (d i : Nat) (out : List S44), i + d = l.length → out.length = i →
    Ev (fun k => octroilaw23_plain.l0 k out l (l.length : Int) (i : Int)) (out ++ (l.drop i).map cvt)
  | 0, i, out, hi, ho => by
    refine Ev.step (f := fun _ => some (out ++ (l.drop i).map cvt)) (fun k => ?_) (Ev.now _)
    simp only [octroilaw23_plain.l0]
    rw [if_neg (by omega), List.drop_eq_nil_of_le (by omega)]
    simp
  | d + 1, i, out, hi, ho => by
    have ih := plain_loop l hl d (i + 1) (out ++ [cvt (rd_T38 l i)]) (by omega) (by simp [ho])
    have hd : l.drop i = rd_T38 l i :: l.drop (i + 1) := by
      rw [List.drop_eq_getElem_cons (by omega)]
      unfold rd_T38
      rw [Int.toNat_natCast, List.getD_eq_getElem?_getD, List.getElem?_eq_getElem (by omega), Option.getD_some]
    rw [hd, List.map_cons, show out ++ cvt (rd_T38 l i) :: (l.drop (i + 1)).map cvt = out ++ [cvt (rd_T38 l i)] ++ (l.drop (i + 1)).map cvt by simp]
    refine Ev.step (fun k => ?_) ih
    simp only [octroilaw23_plain.l0]
    rw [if_pos (by omega), if_pos (by omega), if_pos (by omega), if_pos (by omega), show wrap64 ((i : Int) + 1) = ((i + 1 : Nat) : Int) by rw [wrp64 (by omega) (by omega)]; omega]
    rfl
theorem plain_ev (l : List S38) (hl : l.length ≤ 200) : Ev (fun k => octroilaw23_plain.f k l) (l.map cvt) := by
  have := plain_loop l hl l.length 0 [] (by omega) rfl
  simpa [octroilaw23_plain.f] using this
theorem right_d (d : S44) : octroiref23_Right.f d.f0 d.f1 = some (Ax.dB (d44 d)) := by
  show octroiref23_Right.f d.f0 d.f1 = some (Ax.dealB d.f0 d.f1)
  unfold octroiref23_Right.f Ax.dealB
  rw [ref_may', ref_may']
  by_cases h1 : d.f0 ≥ 0
  · rw [if_pos h1, decide_eq_true (show 0 ≤ d.f0 from h1)]
    cases Ax.mayB d.f0 with
    | false => rfl
    | true =>
      simp only [Option.bind_some, if_true, Bool.true_and]
      by_cases h2 : d.f1 ≥ 0
      · rw [if_pos h2, decide_eq_true (show 0 ≤ d.f1 from h2)]; rfl
      · rw [if_neg h2, decide_eq_false (show ¬ 0 ≤ d.f1 from h2)]; rfl
  · rw [if_neg h1, decide_eq_false (show ¬ 0 ≤ d.f0 from h1)]; rfl
theorem neg_w (c : Int) : wrap64 (-c) = Ax.neg64 c := by unfold Ax.neg64; rw [Ax.wrapI, Int.zero_sub]
theorem pool_end (r : List Int) (bp : Int) (hr : r.length ≤ 1000) : Ev (fun k => (octroiref01_Sum.f k r).bind fun bt290 => (if bt290.2 = 0 then (if bt290.1 < 0 then (some (0, 0, wrap64 (-bt290.1), 0)) else ((octroiref21_Part.f k bt290.1 true bp).bind fun bt292 => (some (bt292.1, bt292.2.1, 0, bt292.2.2)))) else (some (0, 0, 0, bt290.2)))) (Ax.finV r bp) := by
  have hs : Ev (fun k => octroiref01_Sum.f k r) (Ax.smV r) := sum_ev r (by omega)
  refine evb hs (f := fun bt290 k => (if bt290.2 = 0 then (if bt290.1 < 0 then (some (0, 0, wrap64 (-bt290.1), 0)) else ((octroiref21_Part.f k bt290.1 true bp).bind fun bt292 => (some (bt292.1, bt292.2.1, 0, bt292.2.2)))) else (some (0, 0, 0, bt290.2)))) ?_
  unfold Ax.finV
  by_cases h : (Ax.smV r).2 = 0
  · rw [h]
    simp only [bne_self_eq_false, cond_false]
    by_cases hn : (Ax.smV r).1 < 0
    · rw [decide_eq_true hn]
      refine evn (fun k => ?_)
      simp only [if_true, if_pos hn]
      rw [Ax.wrapI, Int.zero_sub]
      rfl
    · rw [decide_eq_false hn]
      refine Ev.congr (fun k => ?_) (evb (ref_part_ev (Ax.smV r).1 true bp) (β := Int × Int × Int × Int) (f := fun bt _ => some (bt.1, bt.2.1, 0, bt.2.2)) (evn (r := ((Ax.partV (Ax.smV r).1 true bp).1, (Ax.partV (Ax.smV r).1 true bp).2.1, 0, (Ax.partV (Ax.smV r).1 true bp).2.2)) (fun k => rfl)))
      simp only [if_true, if_neg hn]
  · rw [show ((Ax.smV r).2 != 0) = true by simpa using h]
    refine evn (fun k => ?_)
    rw [if_neg h]
    rfl
theorem pool_loop (l : List S44) (hl : l.length ≤ 200) (bp : Int) : ∀ (d i : Nat) (r : List Int), i + d = l.length → r.length = 1 + 2 * i →
    Ev (fun k => octroiref23_Pool.l0 k l bp r (i : Int)) (bif ((l.drop i).map d44).all Ax.dB then Ax.finV (r ++ Ax.gath ((l.drop i).map d44)) bp else (0, 0, 0, 2))
  | 0, i, r, hi, hr => by
    rw [List.drop_eq_nil_of_le (by omega)]
    simp only [List.map_nil, Ax.gath, List.append_nil, List.all_nil, cond_true]
    refine Ev.step (fun k => ?_) (pool_end r bp (by omega))
    simp only [octroiref23_Pool.l0]
    rw [if_neg (by omega)]
  | d + 1, i, r, hi, hr => by
    have hd : l.drop i = rd_T44 l i :: l.drop (i + 1) := by
      rw [List.drop_eq_getElem_cons (by omega)]
      unfold rd_T44
      rw [Int.toNat_natCast, List.getD_eq_getElem?_getD, List.getElem?_eq_getElem (by omega), Option.getD_some]
    have ih := pool_loop l hl bp d (i + 1) (r ++ [(rd_T44 l i).f0] ++ [wrap64 (-(rd_T44 l i).f1)]) (by omega) (by simp; omega)
    rw [hd, List.map_cons]
    have ha : r ++ [(rd_T44 l i).f0] ++ [wrap64 (-(rd_T44 l i).f1)] ++ Ax.gath ((l.drop (i + 1)).map d44) = r ++ Ax.gath (d44 (rd_T44 l i) :: (l.drop (i + 1)).map d44) := by
      rw [neg_w]; simp [Ax.gath, d44]
    rw [ha] at ih
    have hc : (d44 (rd_T44 l i) :: (l.drop (i + 1)).map d44).all Ax.dB = (Ax.dB (d44 (rd_T44 l i)) && ((l.drop (i + 1)).map d44).all Ax.dB) := rfl
    rw [hc]
    cases hb : Ax.dB (d44 (rd_T44 l i)) with
    | false =>
      refine Ev.step (f := fun _ => some (0, 0, 0, 2)) (fun k => ?_) (Ev.now _)
      simp only [octroiref23_Pool.l0, right_d, hb, Option.bind_some, Bool.false_eq_true, if_false]
      rw [if_pos (by omega), if_pos (by omega)]
    | true =>
      rw [Bool.true_and]
      refine Ev.step (fun k => ?_) ih
      simp only [octroiref23_Pool.l0, right_d, hb, Option.bind_some, if_true]
      rw [if_pos (by omega), if_pos (by omega), if_pos (by omega), if_pos (by simp; omega), show wrap64 ((i : Int) + 1) = ((i + 1 : Nat) : Int) by rw [wrp64 (by omega) (by omega)]; omega]
theorem ref_pool_ev (l : List S44) (hl : l.length ≤ 200) (bp carry : Int) : Ev (fun k => octroiref23_Pool.f k l bp carry) (Ax.poolV (l.map d44) bp carry) := by
  have no : Ev (fun k => octroiref23_Pool.j0 k l bp carry true) (0, 0, 0, 2) := Ev.step (f := fun _ => some (0, 0, 0, 2)) (fun k => by simp only [octroiref23_Pool.j0, if_true]) (Ev.now _)
  unfold Ax.poolV
  rw [decide_eq_false (show ¬ 1048576 < (((l.map d44).length : Nat) : Int) by simp; omega)]
  simp only [cond_false]
  by_cases h1 : carry < 0
  · rw [decide_eq_true h1]
    refine Ev.congr (fun k => ?_) no
    unfold octroiref23_Pool.f
    rw [if_neg (by omega), if_pos h1]
  · rw [decide_eq_false h1]
    cases h2 : Ax.mayB carry with
    | false =>
      refine Ev.congr (fun k => ?_) no
      unfold octroiref23_Pool.f
      rw [if_neg (by omega), if_neg h1, ref_may', h2]
      simp
    | true =>
      by_cases h3 : bp < 0
      · rw [show Ax.bpB bp = false by unfold Ax.bpB; rw [decide_eq_false (show ¬ 0 ≤ bp by omega)]; rfl]
        refine Ev.congr (fun k => ?_) no
        unfold octroiref23_Pool.f
        rw [if_neg (by omega), if_neg h1, ref_may', h2]
        simp only [Option.bind_some, if_true, if_pos h3]
      · by_cases h4 : bp > 10000
        · rw [show Ax.bpB bp = false by unfold Ax.bpB; rw [decide_eq_false (show ¬ bp ≤ 10000 by omega), Bool.and_false]]
          refine Ev.congr (fun k => ?_) no
          unfold octroiref23_Pool.f
          rw [if_neg (by omega), if_neg h1, ref_may', h2]
          simp only [Option.bind_some, if_true, if_neg h3, decide_eq_true h4]
        · rw [(Ax.bpB_iff bp).2 (by omega)]
          have := pool_loop l hl bp l.length 0 [wrap64 (-carry)] (by omega) rfl
          rw [List.drop_zero, neg_w] at this
          refine Ev.congr (fun k => ?_) (Ev.step (g := fun k => octroiref23_Pool.j0 k l bp carry false) (fun k => ?_) this)
          · unfold octroiref23_Pool.f
            rw [if_neg (by omega), if_neg h1, ref_may', h2]
            simp only [Option.bind_some, if_true, if_neg h3, decide_eq_false h4]
          · simp only [octroiref23_Pool.j0, Bool.false_eq_true, if_false, neg_w]
            rfl
theorem MarginPools : octroilaw23_MarginPools.Pure := by
  intro l bp carry _ _ _ _ _
  by_cases g1 : (l.length : Int) > 200
  · refine ⟨0, ?_⟩
    unfold octroilaw23_MarginPools.f
    rw [if_pos g1, pools_lives]; rfl
  · obtain ⟨K1, h1⟩ := plain_ev l (by omega)
    obtain ⟨K2, h2⟩ := ref_pool_ev (l.map cvt) (by simp; omega) bp carry
    refine ⟨K1 + K2, ?_⟩
    have e1 := h1 (K1 + K2) (by omega)
    have e2 := h2 (K1 + K2) (by omega)
    simp only at e1 e2
    have hm : (l.map cvt).map d44 = l.map dealI := by rw [List.map_map]; rfl
    rw [hm] at e2
    obtain ⟨n1, n2, n3, n4⟩ := Ax.poolV_nn (l.map dealI) bp carry
    unfold octroilaw23_MarginPools.f
    rw [if_neg g1]
    simp only [margin_Pool.f, Option.bind_some, e1, e2, if_true, pools_lives]
    rw [if_pos n1, if_pos n2, if_pos n3]
    rcases n4 with n4 | ⟨n4, n5⟩
    · rw [if_pos n4]
    · rw [n4, n5]
      by_cases g : (Ax.poolV (l.map dealI) bp carry).2.2.1 = 0
      · rw [if_pos g]
      · rw [if_neg g, if_pos (show wrap64 (0 + 0) = 0 from wrp64 (by decide) (by decide))]
end Go.Proofs.Ytdhmhdhfgojofaa.Pure
