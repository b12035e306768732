/- Callees of one object: what they read, what they write; and callees that make one. -/
import Derived.Test.YtiajknfbbchfmaaX0
import Derived.Test.YtiajknfbbchfmaaAx8
import Derived.Test.YtiajknfbbchfmaaMoney
import Derived.Test.YtiajknfbbchfmaaX1
import Derived.Test.YtiajknfbbchfmaaX13
import Derived.Test.YtiajknfbbchfmaaX3
import Derived.Test.YtiajknfbbchfmaaX4
import Derived.Test.YtiajknfbbchfmaaX5
import Derived.Test.YtiajknfbbchfmaaRef01A
import Derived.Test.YtiajknfbbchfmaaAx14
import Derived.Test.YtiajknfbbchfmaaAx4
import Derived.Test.YtiajknfbbchfmaaRowA
import Derived.Test.YtiajknfbbchfmaaWideA
namespace Go.Proofs.Ytiajknfbbchfmaa.Print
open Go.RowKit Go.Proofs.YtiajknfbbchfmaaW.PrintWords Go.Proofs.YtiajknfbbchfmaaW.PrintLast Go.Proofs.YtiajknfbbchfmaaW.PrintMore
set_option linter.unusedVariables false
set_option linter.unusedSimpArgs false
theorem of_ev_may (a : Int) (h : mayB a = true) : ∃ n l, Ev (fun k => octroiref01_Of.f k a) (n, l) ∧ IsNum n l a ∧ l.length ≤ 3 := by
  rw [mayB_iff] at h
  exact of_ev a (by omega) (by omega)
theorem int_loop (n : Bool) (l : List Int) (h : Dig l) (hv : dval l ≤ 4611686018427387904) (hl : l.length ≤ 1000000010) : ∀ (i : Nat) (x : Int), i ≤ l.length → x = dval (l.drop i) → 
    Ev (fun k => octroiref01_Int.l0 k x ((i : Int) - 1) n l) (if n = true then -dval l else dval l, true) := by
  intro i
  induction i with
  | zero =>
    intro x hi hx
    rw [List.drop_zero] at hx
    subst hx
    have h0 := dval_0 h
    refine Ev.step (f := fun _ => some (if n = true then -dval l else dval l, true)) (fun k => ?_) (Ev.now _)
    simp only [octroiref01_Int.l0]
    rw [if_neg (by omega)]
    cases n with
    | true => rw [if_pos rfl, w64 (by omega) (by omega)]; rfl
    | false => rw [if_neg (by simp)]; rfl
  | succ i ih =>
    intro x hi hx
    have e : ((i + 1 : Nat) : Int) - 1 = (i : Int) := by omega
    have hr := h.rd i (by omega)
    have hd := drop_rd l i (by omega)
    have hle : dval (l.drop i) ≤ dval l := by
      have h1 := dval_append (l.take i) (l.drop i)
      rw [List.take_append_drop] at h1
      have h2 := dval_0 (h.take i)
      have h3 := dval_0 (h.drop i)
      have h4 : 1 * dval (l.drop i) ≤ 2147483648 ^ (l.take i).length * dval (l.drop i) := Int.mul_le_mul_of_nonneg_right (by have := pow_pos' (l.take i).length; omega) h3
      omega
    have h0 := dval_0 (h.drop (i + 1))
    rw [hd] at hle
    simp only [dval] at hle
    rw [← hx] at hle h0
    have := ih (x * 2147483648 + rd l i) (by omega) (by rw [hd]; simp only [dval]; rw [← hx]; omega)
    refine Ev.step (fun k => ?_) this
    simp only [octroiref01_Int.l0]
    rw [e, if_pos (by omega), if_pos (by omega), if_pos (by omega), w64 (x := x * 2147483648) (by omega) (by omega), w64 (x := x * 2147483648 + rd l i) (by omega) (by omega), w64 (x := (i : Int) - 1) (by omega) (by omega)]
theorem int_ev (n : Bool) (l : List Int) (v : Int) (h : IsNum n l v) (hl : l.length ≤ 1000000010) :
    Ev (fun k => octroiref01_Int.f k n l) (if mayB v = true then (v, true) else (0, false)) := by
  obtain ⟨mn, ml, hm, im, lm⟩ := of_ev 4611686018427387904 (by omega) (by omega)
  obtain ⟨r, hr, ht⟩ := cmp_ev l ml h.dig im.dig h.nz im.nz hl (by omega)
  have ha := h.abs
  have hb := im.abs
  rw [if_neg (by omega)] at hb
  have hmay := mayB_iff v
  unfold Tells at ht
  by_cases rp : r > 0
  · have hno : ¬ (mayB v = true) := by
      rw [hmay]
      have := ht.1.1 rp
      split at ha <;> omega
    rw [if_neg hno]
    have := evb hm (f := fun bt k => (octroiref01_cmp.f k l bt.2).bind fun t => (if t > 0 then (some (0, false)) else (octroiref01_Int.l0 k 0 (wrap64 ((l.length : Int) - 1)) n l)))
      (evb hr (f := fun t k => (if t > 0 then (some (0, false)) else (octroiref01_Int.l0 k 0 (wrap64 ((l.length : Int) - 1)) n l))) (evn (fun k => by rw [if_pos rp])))
    exact this
  · have hle : dval l ≤ 4611686018427387904 := by
      have := ht.1
      omega
    have hyes : mayB v = true := by
      rw [hmay]
      split at ha <;> omega
    rw [if_pos hyes]
    have hlp := int_loop n l h.dig hle hl l.length 0 (Nat.le_refl _) (by rw [List.drop_eq_nil_of_le (Nat.le_refl _)]; rfl)
    rw [← h.val] at hlp
    have := evb hm (f := fun bt k => (octroiref01_cmp.f k l bt.2).bind fun t => (if t > 0 then (some (0, false)) else (octroiref01_Int.l0 k 0 (wrap64 ((l.length : Int) - 1)) n l)))
      (evb hr (f := fun t k => (if t > 0 then (some (0, false)) else (octroiref01_Int.l0 k 0 (wrap64 ((l.length : Int) - 1)) n l))) (Ev.congr (fun k => by rw [if_neg rp, w64 (by omega) (by omega)]) hlp))
    exact this
theorem ref_may (a : Int) : octroiref01_May.f a = some (mayB a) := by
  unfold octroiref01_May.f mayB
  by_cases h : a ≥ -4611686018427387904
  · rw [if_pos h, decide_eq_true (p := -4611686018427387904 ≤ a) h]; rfl
  · rw [if_neg h, decide_eq_false (p := -4611686018427387904 ≤ a) h]; rfl
theorem sum_loop (l : List Int) (hl : l.length ≤ 1000000) (d : Nat) : ∀ (i : Nat) (n : Bool) (q : List Int) (s : Int), i + d = l.length → IsNum n q s → q.length ≤ 10 + i →
    Ev (fun k => octroiref01_Sum.l0 k l (i : Int) n q) (sumV ((l.drop i).all mayB) (s + (l.drop i).sum)) := by
  induction d with
  | zero =>
    intro i n q s hi hq hlen
    rw [List.drop_eq_nil_of_le (by omega)]
    simp only [List.all_nil, List.sum_nil, Int.add_zero, sumV, cond_true]
    have := evb (int_ev n q s hq (by omega)) (β := Int × Int) (f := fun bt _ => if bt.2 = true then (some (bt.1, 0)) else (some (0, 3))) (r := bif mayB s then (s, 0) else (0, 3)) (evn (fun k => by cases mayB s <;> simp))
    refine Ev.step (fun k => ?_) this
    simp only [octroiref01_Sum.l0]
    rw [if_neg (by omega)]
  | succ d ih =>
    intro i n q s hi hq hlen
    have hw : wrap64 ((i : Int) + 1) = ((i + 1 : Nat) : Int) := by rw [w64 (by omega) (by omega)]; omega
    rw [drop_rd l i (by omega)]
    simp only [List.all_cons, List.sum_cons]
    by_cases hm : mayB (rd l i) = true
    rotate_left
    · rw [Bool.not_eq_true] at hm
      rw [hm]
      simp only [Bool.false_and, sumV, cond_false]
      refine Ev.step (f := fun _ => some (0, 2)) (fun k => ?_) (Ev.now _)
      simp only [octroiref01_Sum.l0]
      rw [if_pos (by omega), if_pos (by omega), ref_may, hm]
      simp
    · obtain ⟨n1, l1, h1, i1, b1⟩ := of_ev_may _ hm
      rw [hm]
      simp only [Bool.true_and]
      obtain ⟨n2, l2, h2, i2, b2⟩ := add_ev n n1 q l1 s _ hq i1 (by omega) (by omega)
      have := ih (i + 1) n2 l2 (s + rd l i) (by omega) i2 (by omega)
      rw [Int.add_assoc] at this
      refine Ev.step (fun k => ?_) (evb h1 (f := fun bt k => (octroiref01_Add.f k n q bt.1 bt.2).bind fun bt => (octroiref01_Sum.l0 k l ((i + 1 : Nat) : Int) bt.1 bt.2)) (evb h2 (f := fun bt k => octroiref01_Sum.l0 k l ((i + 1 : Nat) : Int) bt.1 bt.2) this))
      simp only [octroiref01_Sum.l0]
      rw [if_pos (by omega), if_pos (by omega), ref_may, hm, hw]
      simp
theorem sum_ev (l : List Int) (hl : l.length ≤ 1000000) : Ev (fun k => octroiref01_Sum.f k l) (money_Sum.v l) := by
  have := sum_loop l hl l.length 0 false [] 0 (by omega) IsNum.zero (by simp)
  simpa [octroiref01_Sum.f, money_Sum.v] using this
theorem turn_ev (n : Bool) (l : List Int) (v : Int) (h : IsNum n l v) : ∃ m, octroiref01_Turn.f n l = some (m, l) ∧ IsNum m l (-v) := by
  have hv := h.val
  have h0 := dval_0 h.dig
  unfold octroiref01_Turn.f
  by_cases e : (l.length : Int) = 0
  · have e' : l = [] := List.length_eq_zero_iff.1 (by omega)
    subst e'
    refine ⟨n, by rw [if_pos e], h.dig, h.nz, h.pos, ?_⟩
    rw [hv]; simp [dval]
  · have hne : l ≠ [] := by intro e'; subst e'; simp at e
    have hp := dval_ge h.dig h.nz hne
    have hq := pow_pos' (l.length - 1)
    refine ⟨!n, by rw [if_neg e], h.dig, h.nz, fun _ => by omega, ?_⟩
    rw [hv]; cases n <;> simp
def subV (a b : Int) : Int × Int := sumV (mayB a && mayB b) (a - b)
theorem sub_ev (a b : Int) : Ev (fun k => octroiref01_Sub.f k a b) (subV a b) := by
  by_cases ha : mayB a = true
  · by_cases hb : mayB b = true
    · obtain ⟨n1, l1, h1, i1, b1⟩ := of_ev_may a ha
      obtain ⟨n2, l2, h2, i2, b2⟩ := of_ev_may b hb
      obtain ⟨n3, h3, i3⟩ := turn_ev _ _ _ i2
      obtain ⟨n4, l4, h4, i4, b4⟩ := add_ev n1 n3 l1 l2 _ _ i1 i3 (by omega) (by omega)
      have h5 := int_ev n4 l4 _ i4 (by omega)
      rw [← Int.sub_eq_add_neg] at h5
      have hend : Ev (fun k => octroiref01_Sub.j0 k a b false) (subV a b) := by
        refine Ev.step (fun k => ?_) (evb h1 (β := Int × Int) (f := fun bt1 k => (octroiref01_Of.f k b).bind fun bt2 => (octroiref01_Turn.f bt2.1 bt2.2).bind fun bt3 => (octroiref01_Add.f k bt1.1 bt1.2 bt3.1 bt3.2).bind fun bt4 => (octroiref01_Int.f k bt4.1 bt4.2).bind fun bt5 => if bt5.2 = true then some (bt5.1, 0) else some (0, 3))
          (evb h2 (β := Int × Int) (f := fun bt2 k => (octroiref01_Turn.f bt2.1 bt2.2).bind fun bt3 => (octroiref01_Add.f k n1 l1 bt3.1 bt3.2).bind fun bt4 => (octroiref01_Int.f k bt4.1 bt4.2).bind fun bt5 => if bt5.2 = true then some (bt5.1, 0) else some (0, 3))
          (Ev.congr (fun k => by simp only [h3, Option.bind_some]) (evb h4 (β := Int × Int) (f := fun bt4 k => (octroiref01_Int.f k bt4.1 bt4.2).bind fun bt5 => if bt5.2 = true then some (bt5.1, 0) else some (0, 3))
          (evb h5 (β := Int × Int) (f := fun bt5 _ => if bt5.2 = true then some (bt5.1, 0) else some (0, 3)) (r := subV a b) (evn (fun k => by unfold subV sumV; rw [ha, hb]; cases mayB (a - b) <;> simp)))))))
        simp only [octroiref01_Sub.j0]
        rw [if_neg (by simp)]
      refine Ev.congr (fun k => ?_) hend
      unfold octroiref01_Sub.f
      rw [ref_may, ref_may, ha, hb]; rfl
    · rw [Bool.not_eq_true] at hb
      have hend : Ev (fun k => octroiref01_Sub.j0 k a b true) (subV a b) :=
        Ev.step (f := fun _ => some (subV a b)) (fun k => by simp only [octroiref01_Sub.j0]; unfold subV sumV; rw [ha, hb]; rfl) (Ev.now _)
      refine Ev.congr (fun k => ?_) hend
      unfold octroiref01_Sub.f
      rw [ref_may, ref_may, ha, hb]; rfl
  · rw [Bool.not_eq_true] at ha
    have hend : Ev (fun k => octroiref01_Sub.j0 k a b true) (subV a b) :=
      Ev.step (f := fun _ => some (subV a b)) (fun k => by simp only [octroiref01_Sub.j0]; unfold subV sumV; rw [ha]; rfl) (Ev.now _)
    refine Ev.congr (fun k => ?_) hend
    unfold octroiref01_Sub.f
    rw [ref_may, ha]; rfl
end Go.Proofs.Ytiajknfbbchfmaa.Print
namespace Go.Proofs.Ytiajknfbbchfmaa.Ax
open Go Go.RowKit Go.Proofs.Ytiajknfbbchfmaa.Print Go.Proofs.YtiajknfbbchfmaaW.PrintWords
set_option linter.unusedVariables false
set_option linter.unusedSimpArgs false
theorem C_of_arg {w : World} {L : Loc} {l : List Int} {ρ : Rho} (h : OK ρ w L (.arg [.int .i64] l)) (hl : l.length ≤ 9223372036854775807) :
    ∃ A c, (∀ (ρ' : Rho) id, ρ' id = L → den ρ' (.all id) = .slice A l.length c) ∧ l.length ≤ c ∧ Kd.C (Kd.int .i64) w A l.length l := by
  obtain ⟨hL, ⟨hn, hl0⟩ | ⟨hn, ho, hle, hh⟩⟩ := h
  · have hl0 : l = ([] : List Int) := hl0
    subst hl0
    exact ⟨L.emp, L.cap, fun ρ' id hid => by simp only [den, hid, hn]; rfl, Nat.zero_le _, rfl, by simp, fun h => by simp at h⟩
  · refine ⟨some ⟨L.blk, L.off, none⟩, L.cap, fun ρ' id hid => by simp only [den, hid, hn]; rw [hL]; rfl, hle, rfl, hl, fun _ => ⟨_, rfl, fun j p hp => ⟨[Value.int .i64 p], rfl, rfl, fun i u hu => ?_⟩⟩⟩
    have hi : i = 0 := by
      cases i with
      | zero => rfl
      | succ i => simp at hu
    subst hi
    simp at hu
    subst hu
    have ha : (⟨L.blk, L.off, none⟩ : Addr).add (j * 1 + 0) = ⟨L.blk, L.off + j, none⟩ := by
      unfold Addr.add
      split
      · rename_i h0; congr 1; omega
      · simp
    show w.cell? ((⟨L.blk, L.off, none⟩ : Addr).add (j * 1 + 0)) = _
    rw [ha]
    refine hh j _ ?_
    rw [flat_int, List.getElem?_map, hp]; rfl
def sumOut (l : List Int) : Rd Out := .br (Nat.ble l.length 1000000) (.ret ⟨.tup [.v (.int .i64 (smV l).1), .v (.int .i64 (smV l).2)], []⟩) .fail
def sumC (c : List SV) (n m : Nat) : Rd Out := .opt (intsOf c) fun l => .br (Nat.beq l.length n && Nat.beq l.length m) (sumOut l) .fail
def cSumX : Con := fun args _ => match args with
  | [s] => match s with
    | .v x => match x with
      | .slice none 0 0 => sumOut []
      | _ => .fail
    | .slc id 1 0 n (some m) => .obj id fun o => match o with
      | .cells _ c => sumC c n m
      | .ro _ c => sumC c n m
      | _ => .fail
    | .all id => .obj id fun o => match o with
      | .row _ [.int .i64] l => sumOut l
      | .arg [.int .i64] l => sumOut l
      | _ => .fail
    | _ => .fail
  | _ => .fail
theorem sumOut_run {l : List Int} {h : Hp} {out : Out} {ids : List Nat} (hr : (sumOut l).run h = some (out, ids)) : l.length ≤ 1000000 ∧ out = ⟨.tup [.v (.int .i64 (smV l).1), .v (.int .i64 (smV l).2)], []⟩ := by
  obtain ⟨hb, hr⟩ := br_run (h := h) hr
  cases hr
  exact ⟨Nat.le_of_ble_eq_true hb, rfl⟩
theorem cSumX_ok {f : FuncId} {fn : Func} (hf : Try.prog.funcs[f]? = some fn) (hname : (fn.name == "runtime.NumGoroutine") = false) (hbody : fn.body.isSome = true)
    (hc : ∀ (A : Option Addr) (c : Nat) (l : List Int) (w : World), l.length ≤ 1000000 → Kd.C (Kd.int .i64) w A l.length l → l.length ≤ c → Calls Try.prog f #[.slice A l.length c] w fun e w' => e = .returned (.tuple #[.int .i64 (smV l).1, .int .i64 (smV l).2]) ∧ Below w.heap.size w w') (B) : ConOk Try.prog B f cSumX := by
  intro args ρ h w lo out ids hr hrh hfr hfa up
  have fin : ∀ (s : SV) (l : List Int) (A : Option Addr) (c : Nat), den ρ s = .slice A l.length c → l.length ≤ c → Kd.C (Kd.int .i64) w A l.length l → (∃ ids', (sumOut l).run h = some (out, ids')) →
      CallGives Try.prog f (denL ρ [s]).toArray w fun v w' => ∃ ρ', Made B ρ h w lo (lo + wide) out ρ' v w' := by
    rintro s l A c h1 h2 h3 ⟨ids', hr⟩
    obtain ⟨hl, rfl⟩ := sumOut_run hr
    have hargs : (denL ρ [s]).toArray = #[.slice A l.length c] := by
      show (#[den ρ s] : Array Value) = _
      rw [h1]
    rw [hargs]
    exact gives_same (s := .tup [.v (.int .i64 (smV l).1), .v (.int .i64 (smV l).2)]) hf hname hbody hrh up (hc A c l w hl h3 h2)
  have lit : ∀ (id n m ty : Nat) (c : List SV), OK ρ w (ρ id) (.cells ty c) → (∃ ids', (sumC c n m).run h = some (out, ids')) → CallGives Try.prog f (denL ρ [.slc id 1 0 n (some m)]).toArray w fun v w' => ∃ ρ', Made B ρ h w lo (lo + wide) out ρ' v w' := by
    rintro id n m ty c hk ⟨ids', hr⟩
    unfold sumC at hr
    cases hl : intsOf c with
    | none => rw [hl] at hr; cases hr
    | some l =>
      rw [hl] at hr
      obtain ⟨hb, hr2⟩ := br_run (h := h) hr
      rw [Bool.and_eq_true] at hb
      obtain rfl := Nat.eq_of_beq_eq_true hb.1
      obtain rfl := Nat.eq_of_beq_eq_true hb.2
      have hlen := (sumOut_run hr2).1
      obtain ⟨d1, d2⟩ := C_of_cells hk hl (by omega)
      exact fin _ l _ _ d1 (Nat.le_refl _) d2 ⟨_, hr2⟩
  unfold cSumX at hr
  split at hr
  · rename_i s
    split at hr
    · rename_i x
      split at hr
      · exact fin _ [] none 0 rfl (Nat.le_refl _) ⟨rfl, by simp, fun h => by simp at h⟩ ⟨_, hr⟩
      · cases hr
    · rename_i id n m
      obtain ⟨o, ids', ho, hr⟩ := obj_run hr
      split at hr
      · exact lit id n m _ _ (hrh.ok id _ ho) ⟨_, hr⟩
      · rename_i ty c
        have hk := hrh.ok id _ ho
        exact lit id n m ty c ⟨hk.1, hk.2.1, hk.2.2⟩ ⟨_, hr⟩
      · cases hr
    · rename_i id
      obtain ⟨o, ids', ho, hr⟩ := obj_run hr
      split at hr
      · rename_i e l
        have hlen := (sumOut_run hr).1
        obtain ⟨A, c, h1, h2, h3⟩ := C_of_row (hrh.ok id _ ho) (by omega)
        exact fin _ l A c (h1 ρ id rfl) h2 h3 ⟨_, hr⟩
      · rename_i l
        have hlen := (sumOut_run hr).1
        obtain ⟨A, c, h1, h2, h3⟩ := C_of_arg (hrh.ok id _ ho) (by omega)
        exact fin _ l A c (h1 ρ id rfl) h2 h3 ⟨_, hr⟩
      · cases hr
    · cases hr
  · cases hr
theorem mSum_ok : ∀ B, ConOk Try.prog B 35 cSumX := cSumX_ok Try.func35 (by kernel_rfl) (by kernel_rfl) fun A c l w hl h3 h2 => money_Sum.calls A c l _ _ w h3 h2 rfl
theorem rSum_ok : ∀ B, ConOk Try.prog B 27 cSumX := cSumX_ok Try.func27 (by kernel_rfl) (by kernel_rfl) fun A c l w hl h3 h2 => by
  obtain ⟨K, hK⟩ := sum_ev l hl
  exact octroiref01_Sum.calls K A c l _ _ w h3 h2 (hK K (Nat.le_refl _))
end Go.Proofs.Ytiajknfbbchfmaa.Ax
namespace Go.Proofs.Ytiajknfbbchfmaa.Ax
open Go Go.RowKit Go.Proofs.YtiajknfbbchfmaaW.PrintWords
set_option linter.unusedVariables false
set_option linter.unusedSimpArgs false
mutual
theorem ren_lt0 (m : Nat → Nat) : ∀ s : SV, s.lt 0 = true → ren m s = s
  | .v _, _ => rfl
  | .ptr id _, h => absurd (blt_lt h) (Nat.not_lt_zero _)
  | .elt id _ _ _, h => absurd (blt_lt h) (Nat.not_lt_zero _)
  | .slc id _ _ _ _, h => absurd (blt_lt h) (Nat.not_lt_zero _)
  | .all id, h => absurd (blt_lt h) (Nat.not_lt_zero _)
  | .map id, h => absurd (blt_lt h) (Nat.not_lt_zero _)
  | .fn _ fi ca, h => by
    simp only [SV.lt, Bool.and_eq_true] at h
    simp only [ren]; rw [renL_lt0 m fi h.1, renL_lt0 m ca h.2]
  | .agg l, h => by simp only [ren]; rw [renL_lt0 m l h]
  | .tup l, h => by simp only [ren]; rw [renL_lt0 m l h]
theorem renL_lt0 (m : Nat → Nat) : ∀ l : List SV, ltL 0 l = true → renL m l = l
  | [], _ => rfl
  | s :: l, h => by
    simp only [ltL, Bool.and_eq_true] at h
    simp only [renL]; rw [ren_lt0 m s h.1, renL_lt0 m l h.2]
end
section
variable {P : Program} {C : FuncId → Option Con} {cn : Nat → St → Option St} {F : Nat} {B : Nat → Prop} {f : FuncId} {fn : Func} {ρ : Rho} {h : Hp} {w : World} {lo : Nat}
end
theorem arg_of_C {α : Type} {d : Kd α} {s : List Sc} {f : α → TT s} (hd : ∀ w x c, d.K w x c → c = enc s (f x)) (hsz : d.sz = s.length) (hs0 : 0 < s.length) {w : World} {A : Option Addr} {c : Nat} {l : List α} (h : Kd.C d w A l.length l) (hc : l.length ≤ c) (hl : l ≠ []) :
    ∃ L : Loc, L.nil = false ∧ L.len = l.length ∧ L.cap = c ∧ A = some ⟨L.blk, L.off, none⟩ ∧ (∀ ρ, OK ρ w L (.arg s (l.map f))) := by
  have hpos : 0 < l.length := by cases l with | nil => exact absurd rfl hl | cons => simp
  obtain ⟨h1, h2, h3⟩ := h
  obtain ⟨ad, rfl, hcell⟩ := h3 hpos
  have cells : ∀ j p, l[j]? = some p → ∀ i u, (enc s (f p))[i]? = some u → w.cell? (ad.add (j * s.length + i)) = some u := by
    intro j p hp i u hu
    obtain ⟨cs, k1, k2, k3⟩ := hcell j p hp
    have := k3 i u (by rw [hd w p cs k2]; exact hu)
    rwa [hsz] at this
  obtain ⟨p0, hp0⟩ : ∃ p0, l[0]? = some p0 := ⟨_, List.getElem?_eq_getElem hpos⟩
  obtain ⟨u0, hu0⟩ : ∃ u0, (enc s (f p0))[0]? = some u0 := ⟨_, List.getElem?_eq_getElem (by rw [enc_length]; exact hs0)⟩
  have c0 := cells 0 p0 hp0 0 u0 hu0
  have hz : ad.add (0 * s.length + 0) = ad := by unfold Addr.add; rw [if_pos (by omega)]
  rw [hz] at c0
  have hsp : ad.spot = none ∧ ad.block < w.heap.size := by
    unfold World.cell? at c0
    cases hb : w.heap[ad.block]? with
    | none => rw [hb] at c0; cases c0
    | some o =>
      refine ⟨?_, (Array.getElem?_eq_some_iff.1 hb).1⟩
      rw [hb] at c0
      cases o with
      | cells cc ty fr =>
        simp only at c0
        cases hs : ad.spot with
        | none => rfl
        | some z => rw [hs] at c0; simp at c0
      | _ => cases c0
  have hadd : ∀ n, ad.add n = ⟨ad.block, ad.off + n, none⟩ := by
    intro n
    unfold Addr.add
    split
    · rename_i e; subst e; cases ad; simp at hsp; simp [hsp.1]
    · rfl
  refine ⟨⟨ad.block, ad.off, l.length, c, false, none⟩, rfl, rfl, rfl, ?_, fun ρ => ⟨by simp, .inr ⟨rfl, hsp.2, by simp; exact hc, fun j v hv => ?_⟩⟩⟩
  · cases ad; simp at hsp; simp [hsp.1]
  · -- the flat cells
    have hfl : ∀ (l : List α) (j : Nat) (v : Value), (flat s (l.map f))[j]? = some v → ∃ q p, l[q]? = some p ∧ (enc s (f p))[j - q * s.length]? = some v ∧ q * s.length ≤ j := by
      intro l
      induction l with
      | nil => intro j v hv; simp [flat] at hv
      | cons x l ih =>
        intro j v hv
        simp only [flat, List.map_cons, List.flatten_cons] at hv ih
        by_cases hj : j < s.length
        · rw [List.getElem?_append_left (by rw [enc_length]; exact hj)] at hv
          exact ⟨0, x, rfl, by simpa using hv, by omega⟩
        · rw [List.getElem?_append_right (by rw [enc_length]; omega), enc_length] at hv
          obtain ⟨q, p, k1, k2, k3⟩ := ih (j - s.length) v hv
          refine ⟨q + 1, p, by simpa using k1, ?_, by rw [Nat.succ_mul]; omega⟩
          rw [Nat.succ_mul, show j - (q * s.length + s.length) = j - s.length - q * s.length by omega]
          exact k2
    obtain ⟨q, p, k1, k2, k3⟩ := hfl l j v hv
    have := cells q p k1 _ v k2
    rw [show q * s.length + (j - q * s.length) = j by omega, hadd] at this
    exact this
end Go.Proofs.Ytiajknfbbchfmaa.Ax
