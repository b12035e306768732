/- ShareWhole. -/
import Derived.Test.YthjondinjebalaaX0
import Derived.Test.YthjondinjebalaaAx8
import Derived.Test.YthjondinjebalaaMoney
import Derived.Test.YthjondinjebalaaX1
import Derived.Test.YthjondinjebalaaX12
import Derived.Test.YthjondinjebalaaX5
import Derived.Test.YthjondinjebalaaX6
import Derived.Test.YthjondinjebalaaX7
import Derived.Test.YthjondinjebalaaRef01A
import Derived.Test.YthjondinjebalaaAx14
import Derived.Test.YthjondinjebalaaAx4
import Derived.Test.YthjondinjebalaaShI
namespace Go.Proofs.Ythjondinjebalaa.Print
open Go.RowKit Go.Proofs.YthjondinjebalaaW.PrintWords Go.Proofs.YthjondinjebalaaW.PrintLast Go.Proofs.YthjondinjebalaaW.PrintMore
set_option linter.unusedVariables false
set_option linter.unusedSimpArgs false
theorem of_ev_may (a : Int) (h : mayB a = true) : ∃ n l, Ev (fun k => octroiref01_Of.f k a) (n, l) ∧ IsNum n l a ∧ l.length ≤ 3 := by
  rw [mayB_iff] at h
  exact of_ev a (by omega) (by omega)
theorem int_loop (n : Bool) (l : List Int) (h : Dig l) (hv : dval l ≤ 4611686018427387904) (hl : l.length ≤ 1000000010) : ∀ (i : Nat) (x : Int), i ≤ l.length → x = dval (l.drop i) → 
    Ev (fun k => octroiref01_Int.l0 k x ((i : Int) - 1) n l) (if n = true then -dval l else dval l, true) := by
  intro i
  induction i with
  | zero =>
    intro x hi hx
    rw [List.drop_zero] at hx
    subst hx
    have h0 := dval_0 h
    refine Ev.step (f := fun _ => some (if n = true then -dval l else dval l, true)) (fun k => ?_) (Ev.now _)
    simp only [octroiref01_Int.l0]
    rw [if_neg (by omega)]
    cases n with
    | true => rw [if_pos rfl, w64 (by omega) (by omega)]; rfl
    | false => rw [if_neg (by simp)]; rfl
  | succ i ih =>
    intro x hi hx
    have e : ((i + 1 : Nat) : Int) - 1 = (i : Int) := by omega
    have hr := h.rd i (by omega)
    have hd := drop_rd l i (by omega)
    have hle : dval (l.drop i) ≤ dval l := by
      have h1 := dval_append (l.take i) (l.drop i)
      rw [List.take_append_drop] at h1
      have h2 := dval_0 (h.take i)
      have h3 := dval_0 (h.drop i)
      have h4 : 1 * dval (l.drop i) ≤ 2147483648 ^ (l.take i).length * dval (l.drop i) := Int.mul_le_mul_of_nonneg_right (by have := pow_pos' (l.take i).length; omega) h3
      omega
    have h0 := dval_0 (h.drop (i + 1))
    rw [hd] at hle
    simp only [dval] at hle
    rw [← hx] at hle h0
    have := ih (x * 2147483648 + rd l i) (by omega) (by rw [hd]; simp only [dval]; rw [← hx]; omega)
    refine Ev.step (fun k => ?_) this
    simp only [octroiref01_Int.l0]
    rw [e, if_pos (by omega), if_pos (by omega), if_pos (by omega), w64 (x := x * 2147483648) (by omega) (by omega), w64 (x := x * 2147483648 + rd l i) (by omega) (by omega), w64 (x := (i : Int) - 1) (by omega) (by omega)]
theorem int_ev (n : Bool) (l : List Int) (v : Int) (h : IsNum n l v) (hl : l.length ≤ 1000000010) :
    Ev (fun k => octroiref01_Int.f k n l) (if mayB v = true then (v, true) else (0, false)) := by
  obtain ⟨mn, ml, hm, im, lm⟩ := of_ev 4611686018427387904 (by omega) (by omega)
  obtain ⟨r, hr, ht⟩ := cmp_ev l ml h.dig im.dig h.nz im.nz hl (by omega)
  have ha := h.abs
  have hb := im.abs
  rw [if_neg (by omega)] at hb
  have hmay := mayB_iff v
  unfold Tells at ht
  by_cases rp : r > 0
  · have hno : ¬ (mayB v = true) := by
      rw [hmay]
      have := ht.1.1 rp
      split at ha <;> omega
    rw [if_neg hno]
    have := evb hm (f := fun bt k => (octroiref01_cmp.f k l bt.2).bind fun t => (if t > 0 then (some (0, false)) else (octroiref01_Int.l0 k 0 (wrap64 ((l.length : Int) - 1)) n l)))
      (evb hr (f := fun t k => (if t > 0 then (some (0, false)) else (octroiref01_Int.l0 k 0 (wrap64 ((l.length : Int) - 1)) n l))) (evn (fun k => by rw [if_pos rp])))
    exact this
  · have hle : dval l ≤ 4611686018427387904 := by
      have := ht.1
      omega
    have hyes : mayB v = true := by
      rw [hmay]
      split at ha <;> omega
    rw [if_pos hyes]
    have hlp := int_loop n l h.dig hle hl l.length 0 (Nat.le_refl _) (by rw [List.drop_eq_nil_of_le (Nat.le_refl _)]; rfl)
    rw [← h.val] at hlp
    have := evb hm (f := fun bt k => (octroiref01_cmp.f k l bt.2).bind fun t => (if t > 0 then (some (0, false)) else (octroiref01_Int.l0 k 0 (wrap64 ((l.length : Int) - 1)) n l)))
      (evb hr (f := fun t k => (if t > 0 then (some (0, false)) else (octroiref01_Int.l0 k 0 (wrap64 ((l.length : Int) - 1)) n l))) (Ev.congr (fun k => by rw [if_neg rp, w64 (by omega) (by omega)]) hlp))
    exact this
theorem ref_may (a : Int) : octroiref01_May.f a = some (mayB a) := by
  unfold octroiref01_May.f mayB
  by_cases h : a ≥ -4611686018427387904
  · rw [if_pos h, decide_eq_true (p := -4611686018427387904 ≤ a) h]; rfl
  · rw [if_neg h, decide_eq_false (p := -4611686018427387904 ≤ a) h]; rfl
theorem sum_loop (l : List Int) (hl : l.length ≤ 1000000) (d : Nat) : ∀ (i : Nat) (n : Bool) (q : List Int) (s : Int), i + d = l.length → IsNum n q s → q.length ≤ 10 + i →
    Ev (fun k => octroiref01_Sum.l0 k l (i : Int) n q) (sumV ((l.drop i).all mayB) (s + (l.drop i).sum)) := by
  induction d with
  | zero =>
    intro i n q s hi hq hlen
    rw [List.drop_eq_nil_of_le (by omega)]
    simp only [List.all_nil, List.sum_nil, Int.add_zero, sumV, cond_true]
    have := evb (int_ev n q s hq (by omega)) (β := Int × Int) (f := fun bt _ => if bt.2 = true then (some (bt.1, 0)) else (some (0, 3))) (r := bif mayB s then (s, 0) else (0, 3)) (evn (fun k => by cases mayB s <;> simp))
    refine Ev.step (fun k => ?_) this
    simp only [octroiref01_Sum.l0]
    rw [if_neg (by omega)]
  | succ d ih =>
    intro i n q s hi hq hlen
    have hw : wrap64 ((i : Int) + 1) = ((i + 1 : Nat) : Int) := by rw [w64 (by omega) (by omega)]; omega
    rw [drop_rd l i (by omega)]
    simp only [List.all_cons, List.sum_cons]
    by_cases hm : mayB (rd l i) = true
    rotate_left
    · rw [Bool.not_eq_true] at hm
      rw [hm]
      simp only [Bool.false_and, sumV, cond_false]
      refine Ev.step (f := fun _ => some (0, 2)) (fun k => ?_) (Ev.now _)
      simp only [octroiref01_Sum.l0]
      rw [if_pos (by omega), if_pos (by omega), ref_may, hm]
      simp
    · obtain ⟨n1, l1, h1, i1, b1⟩ := of_ev_may _ hm
      rw [hm]
      simp only [Bool.true_and]
      obtain ⟨n2, l2, h2, i2, b2⟩ := add_ev n n1 q l1 s _ hq i1 (by omega) (by omega)
      have := ih (i + 1) n2 l2 (s + rd l i) (by omega) i2 (by omega)
      rw [Int.add_assoc] at this
      refine Ev.step (fun k => ?_) (evb h1 (f := fun bt k => (octroiref01_Add.f k n q bt.1 bt.2).bind fun bt => (octroiref01_Sum.l0 k l ((i + 1 : Nat) : Int) bt.1 bt.2)) (evb h2 (f := fun bt k => octroiref01_Sum.l0 k l ((i + 1 : Nat) : Int) bt.1 bt.2) this))
      simp only [octroiref01_Sum.l0]
      rw [if_pos (by omega), if_pos (by omega), ref_may, hm, hw]
      simp
theorem sum_ev (l : List Int) (hl : l.length ≤ 1000000) : Ev (fun k => octroiref01_Sum.f k l) (money_Sum.v l) := by
  have := sum_loop l hl l.length 0 false [] 0 (by omega) IsNum.zero (by simp)
  simpa [octroiref01_Sum.f, money_Sum.v] using this
end Go.Proofs.Ythjondinjebalaa.Print
namespace Go.Proofs.Ythjondinjebalaa.Ax
open Go Go.RowKit Go.Proofs.Ythjondinjebalaa.Print Go.Proofs.YthjondinjebalaaW.PrintWords
set_option linter.unusedVariables false
set_option linter.unusedSimpArgs false
theorem C_of_arg {w : World} {L : Loc} {l : List Int} {ρ : Rho} (h : OK ρ w L (.arg [.int .i64] l)) (hl : l.length ≤ 9223372036854775807) :
    ∃ A c, (∀ (ρ' : Rho) id, ρ' id = L → den ρ' (.all id) = .slice A l.length c) ∧ l.length ≤ c ∧ Kd.C (Kd.int .i64) w A l.length l := by
  obtain ⟨hL, ⟨hn, hl0⟩ | ⟨hn, ho, hle, hh⟩⟩ := h
  · have hl0 : l = ([] : List Int) := hl0
    subst hl0
    exact ⟨L.emp, L.cap, fun ρ' id hid => by simp only [den, hid, hn]; rfl, Nat.zero_le _, rfl, by simp, fun h => by simp at h⟩
  · refine ⟨some ⟨L.blk, L.off, none⟩, L.cap, fun ρ' id hid => by simp only [den, hid, hn]; rw [hL]; rfl, hle, rfl, hl, fun _ => ⟨_, rfl, fun j p hp => ⟨[Value.int .i64 p], rfl, rfl, fun i u hu => ?_⟩⟩⟩
    have hi : i = 0 := by
      cases i with
      | zero => rfl
      | succ i => simp at hu
    subst hi
    simp at hu
    subst hu
    have ha : (⟨L.blk, L.off, none⟩ : Addr).add (j * 1 + 0) = ⟨L.blk, L.off + j, none⟩ := by
      unfold Addr.add
      split
      · rename_i h0; congr 1; omega
      · simp
    show w.cell? ((⟨L.blk, L.off, none⟩ : Addr).add (j * 1 + 0)) = _
    rw [ha]
    refine hh j _ ?_
    rw [flat_int, List.getElem?_map, hp]; rfl
def sumOut (l : List Int) : Rd Out := .br (Nat.ble l.length 1000000) (.ret ⟨.tup [.v (.int .i64 (smV l).1), .v (.int .i64 (smV l).2)], []⟩) .fail
def sumC (c : List SV) (n m : Nat) : Rd Out := .opt (intsOf c) fun l => .br (Nat.beq l.length n && Nat.beq l.length m) (sumOut l) .fail
def cSumX : Con := fun args _ => match args with
  | [s] => match s with
    | .v x => match x with
      | .slice none 0 0 => sumOut []
      | _ => .fail
    | .slc id 1 0 n (some m) => .obj id fun o => match o with
      | .cells _ c => sumC c n m
      | .ro _ c => sumC c n m
      | _ => .fail
    | .all id => .obj id fun o => match o with
      | .row _ [.int .i64] l => sumOut l
      | .arg [.int .i64] l => sumOut l
      | _ => .fail
    | _ => .fail
  | _ => .fail
theorem sumOut_run {l : List Int} {h : Hp} {out : Out} {ids : List Nat} (hr : (sumOut l).run h = some (out, ids)) : l.length ≤ 1000000 ∧ out = ⟨.tup [.v (.int .i64 (smV l).1), .v (.int .i64 (smV l).2)], []⟩ := by
  obtain ⟨hb, hr⟩ := br_run (h := h) hr
  cases hr
  exact ⟨Nat.le_of_ble_eq_true hb, rfl⟩
theorem cSumX_ok {f : FuncId} {fn : Func} (hf : Try.prog.funcs[f]? = some fn) (hname : (fn.name == "runtime.NumGoroutine") = false) (hbody : fn.body.isSome = true)
    (hc : ∀ (A : Option Addr) (c : Nat) (l : List Int) (w : World), l.length ≤ 1000000 → Kd.C (Kd.int .i64) w A l.length l → l.length ≤ c → Calls Try.prog f #[.slice A l.length c] w fun e w' => e = .returned (.tuple #[.int .i64 (smV l).1, .int .i64 (smV l).2]) ∧ Below w.heap.size w w') (B) : ConOk Try.prog B f cSumX := by
  intro args ρ h w lo out ids hr hrh hfr hfa up
  have fin : ∀ (s : SV) (l : List Int) (A : Option Addr) (c : Nat), den ρ s = .slice A l.length c → l.length ≤ c → Kd.C (Kd.int .i64) w A l.length l → (∃ ids', (sumOut l).run h = some (out, ids')) →
      CallGives Try.prog f (denL ρ [s]).toArray w fun v w' => ∃ ρ', Made B ρ h w lo (lo + wide) out ρ' v w' := by
    rintro s l A c h1 h2 h3 ⟨ids', hr⟩
    obtain ⟨hl, rfl⟩ := sumOut_run hr
    have hargs : (denL ρ [s]).toArray = #[.slice A l.length c] := by
      show (#[den ρ s] : Array Value) = _
      rw [h1]
    rw [hargs]
    exact gives_same (s := .tup [.v (.int .i64 (smV l).1), .v (.int .i64 (smV l).2)]) hf hname hbody hrh up (hc A c l w hl h3 h2)
  have lit : ∀ (id n m ty : Nat) (c : List SV), OK ρ w (ρ id) (.cells ty c) → (∃ ids', (sumC c n m).run h = some (out, ids')) → CallGives Try.prog f (denL ρ [.slc id 1 0 n (some m)]).toArray w fun v w' => ∃ ρ', Made B ρ h w lo (lo + wide) out ρ' v w' := by
    rintro id n m ty c hk ⟨ids', hr⟩
    unfold sumC at hr
    cases hl : intsOf c with
    | none => rw [hl] at hr; cases hr
    | some l =>
      rw [hl] at hr
      obtain ⟨hb, hr2⟩ := br_run (h := h) hr
      rw [Bool.and_eq_true] at hb
      obtain rfl := Nat.eq_of_beq_eq_true hb.1
      obtain rfl := Nat.eq_of_beq_eq_true hb.2
      have hlen := (sumOut_run hr2).1
      obtain ⟨d1, d2⟩ := C_of_cells hk hl (by omega)
      exact fin _ l _ _ d1 (Nat.le_refl _) d2 ⟨_, hr2⟩
  unfold cSumX at hr
  split at hr
  · rename_i s
    split at hr
    · rename_i x
      split at hr
      · exact fin _ [] none 0 rfl (Nat.le_refl _) ⟨rfl, by simp, fun h => by simp at h⟩ ⟨_, hr⟩
      · cases hr
    · rename_i id n m
      obtain ⟨o, ids', ho, hr⟩ := obj_run hr
      split at hr
      · exact lit id n m _ _ (hrh.ok id _ ho) ⟨_, hr⟩
      · rename_i ty c
        have hk := hrh.ok id _ ho
        exact lit id n m ty c ⟨hk.1, hk.2.1, hk.2.2⟩ ⟨_, hr⟩
      · cases hr
    · rename_i id
      obtain ⟨o, ids', ho, hr⟩ := obj_run hr
      split at hr
      · rename_i e l
        have hlen := (sumOut_run hr).1
        obtain ⟨A, c, h1, h2, h3⟩ := C_of_row (hrh.ok id _ ho) (by omega)
        exact fin _ l A c (h1 ρ id rfl) h2 h3 ⟨_, hr⟩
      · rename_i l
        have hlen := (sumOut_run hr).1
        obtain ⟨A, c, h1, h2, h3⟩ := C_of_arg (hrh.ok id _ ho) (by omega)
        exact fin _ l A c (h1 ρ id rfl) h2 h3 ⟨_, hr⟩
      · cases hr
    · cases hr
  · cases hr
theorem rSum_ok : ∀ B, ConOk Try.prog B 12 cSumX := cSumX_ok Try.func12 (by kernel_rfl) (by kernel_rfl) fun A c l w hl h3 h2 => by
  obtain ⟨K, hK⟩ := sum_ev l hl
  exact octroiref01_Sum.calls K A c l _ _ w h3 h2 (hK K (Nat.le_refl _))
end Go.Proofs.Ythjondinjebalaa.Ax
namespace Go.Proofs.Ythjondinjebalaa.Sh
open Go Go.RowKit Go.Proofs.YthjondinjebalaaW.PrintWords Go.Proofs.Ythjondinjebalaa.Ax
set_option linter.unusedVariables false
set_option linter.unusedSimpArgs false
noncomputable def CW : FuncId → Option Con
  | 7 => some cLives
  | 11 => some cSplit
  | 12 => some Ax.cSumX
  | _ => none
theorem CW_ok : ∀ B' g φ, CW g = some φ → ConOk Try.prog B' g φ := by
  intro B' g φ h
  unfold CW at h
  split at h
  · cases h; exact cLives_ok B'
  · cases h; exact cSplit_ok B'
  · cases h; exact Ax.rSum_ok B'
  · cases h
noncomputable abbrev fW : Func := Try.f4
def TW : Nat → Option (List Nat × List (Nat × TypeId × List Sc))
  | 10 => some ([0, 1, 48, 49, 50], [])
  | _ => none
noncomputable def W10 (F kk : Nat) (total : Int) (ws l : List Int) (i : Int) : OB := loopAt (eff Try.prog CW) fW.ntmps (cnRow 1 TW) F Try.prog fW (KX [qBool]) [.R, .R, .R, .R, .R, .R, .L, .R, .D] kk
  ⟨[(0, vi total), (1, .all 0), (48, .all 1), (49, vi (l.length : Int)), (50, vi i)], [(0, .arg sI ws), (1, .row tI sI l)], 3⟩
def r2W (n w : Int) (K : OB) : OB := sel (w == 0) (sel (n != 0) oF K) K
def r1W (total n w : Int) (R : OB) : OB := sel (decide (0 < n)) (sel (decide (total < 0)) oF R) R
theorem W10_eq (F kk : Nat) (total : Int) (ws l : List Int) (i : Int) : W10 F (kk + 1) total ws l i =
    sel (decide (i < (l.length : Int))) (idxP l i (sel (decide (rI l i < 0)) (sel (decide (0 < total)) oF (r1W total (rI l i) (rI ws i) (idxP ws i (r2W (rI l i) (rI ws i) (W10 F kk total ws l (IT.wrap (i + 1)))))))
      (r1W total (rI l i) (rI ws i) (idxP ws i (r2W (rI l i) (rI ws i) (W10 F kk total ws l (IT.wrap (i + 1)))))))) oT := by kernel_rfl
theorem whole_tree (F : Nat) (total : Int) (ws : List Int) : evX Try.prog CW (cnRow 1 TW) F fW [qInt, qInts] [qBool] (total, ws, ()) =
    sel (decide (256 < (ws.length : Int))) oT (sel (spE total ws != 0) (sel (((spL total ws).length : Int) == 0) oT oF)
      (sel (Nat.ble (spL total ws).length 1000000) (sel ((Ax.smV (spL total ws)).2 != 0) oF (sel ((Ax.smV (spL total ws)).1 != total) oF (sel (((spL total ws).length : Int) != (ws.length : Int)) oF (W10 F F total ws (spL total ws) 0)))) none)) := by kernel_rfl
end Go.Proofs.Ythjondinjebalaa.Sh
namespace Go.Proofs.Ythjondinjebalaa.Sh
open Go Go.RowKit Go.Proofs.YthjondinjebalaaW.PrintWords Go.Proofs.Ythjondinjebalaa.Ax
set_option linter.unusedVariables false
set_option linter.unusedSimpArgs false
theorem mem_le_sum : ∀ (l : List Int), (∀ x ∈ l, 0 ≤ x) → ∀ x ∈ l, x ≤ l.sum
  | [], _, x, hx => by cases hx
  | y :: l, h, x, hx => by
    have h1 := mem_le_sum l (fun z hz => h z (by simp [hz]))
    have h2 : 0 ≤ l.sum := by
      have := sum_take_le l l.length (fun z hz => h z (by simp [hz]))
      rw [List.take_of_length_le (Nat.le_refl _)] at this
      omega
    have h3 := h y (by simp)
    rw [List.sum_cons]
    rcases List.mem_cons.1 hx with rfl | hx
    · omega
    · have := h1 x hx; omega
theorem neg_map : ∀ (l : List Int), (∀ x ∈ l, 0 ≤ x ∧ x ≤ 4611686018427387904) → (l.map negW).sum = -l.sum ∧ ∀ x ∈ l, negW x = -x
  | [], _ => ⟨by simp, fun x hx => by cases hx⟩
  | y :: l, h => by
    obtain ⟨h1, h2⟩ := neg_map l (fun z hz => h z (by simp [hz]))
    have h3 := h y (by simp)
    have e : negW y = -y := by
      unfold negW
      show IntKind.i64.wrap _ = _
      rw [IntKind.wrap_i64]; omega
    refine ⟨by rw [List.map_cons, List.sum_cons, List.sum_cons, h1, e]; omega, fun x hx => ?_⟩
    rcases List.mem_cons.1 hx with rfl | hx
    · exact e
    · exact h2 x hx
theorem split_parts {total : Int} {ws : List Int} (hok : okS total ws = true) : (splitV total ws).length = ws.length ∧ (splitV total ws).sum = total ∧ (∀ x ∈ splitV total ws, -4611686018427387904 ≤ x ∧ x ≤ 4611686018427387904) ∧
    ∀ i (hi : i < ws.length), (0 ≤ total → 0 ≤ rI (splitV total ws) (i : Nat)) ∧ (total < 0 → rI (splitV total ws) (i : Nat) ≤ 0) ∧ (ws[i] = 0 → rI (splitV total ws) (i : Nat) = 0) := by
  have hok2 : (Ax.mayB total && (sumV ws).2) = true := hok
  rw [Bool.and_eq_true] at hok2
  obtain ⟨g1, g2, g3⟩ := out_get hok2.1 hok2.2
  obtain ⟨n1, n2, ng, na, np⟩ := sum_good hok2.2
  obtain ⟨q1, q2, q3⟩ := good_sum ws ng
  have hsz := size_in hok2.1
  have hmay : -4611686018427387904 ≤ total ∧ total ≤ 4611686018427387904 := by
    have := hok2.1
    simpa only [Ax.mayB, Bool.and_eq_true, decide_eq_true_eq] using this
  have hget : ∀ i (hi : i < ws.length), 0 ≤ rI (outV ws ws.sum (sizedV total)) (i : Nat) ∧ (ws[i] = 0 → rI (outV ws ws.sum (sizedV total)) (i : Nat) = 0) := by
    intro i hi
    obtain ⟨b, hb, he⟩ := g3 i hi
    have h4 := q3 i
    rw [show ws.getD i 0 = ws[i] by simp [List.getD, hi]] at h4
    have h5 : 0 ≤ wh ws.sum (sizedV total) ws[i] := Int.ediv_nonneg (Int.mul_nonneg hsz.1 h4.1) (by omega)
    refine ⟨by rw [he]; rcases hb with rfl | ⟨rfl, _⟩ <;> omega, fun hz => ?_⟩
    rw [he]
    unfold rs at hb
    unfold wh
    rw [hz] at hb ⊢
    rw [Int.mul_zero] at hb ⊢
    rw [Int.zero_emod] at hb
    rw [Int.zero_ediv]
    rcases hb with rfl | ⟨_, hb⟩
    · rfl
    · omega
  have hnn : ∀ x ∈ outV ws ws.sum (sizedV total), 0 ≤ x := by
    intro x hx
    obtain ⟨i, hi, rfl⟩ := List.mem_iff_getElem.1 hx
    have := (hget i (by omega)).1
    rwa [rI_at _ i hi] at this
  have hup : ∀ x ∈ outV ws ws.sum (sizedV total), 0 ≤ x ∧ x ≤ 4611686018427387904 := fun x hx => by
    have h1 := mem_le_sum _ hnn x hx
    have h2 := hnn x hx
    omega
  unfold splitV
  by_cases hneg : total < 0
  · rw [decide_eq_true hneg, cond_true]
    obtain ⟨m1, m2⟩ := neg_map _ hup
    have e : sizedV total = -total := by
      unfold sizedV
      have e : IT.wrap (0 - total) = -total := by
        show IntKind.i64.wrap _ = _
        rw [IntKind.wrap_i64]; omega
      rw [decide_eq_true hneg, cond_true, e, IntKind.wrap_u64]; omega
    have hr : ∀ i (hi : i < ws.length), rI ((outV ws ws.sum (sizedV total)).map negW) (i : Nat) = -rI (outV ws ws.sum (sizedV total)) (i : Nat) := by
      intro i hi
      rw [rI_at _ i (by rw [List.length_map]; omega), rI_at _ i (by omega), List.getElem_map]
      exact m2 _ (List.getElem_mem _)
    refine ⟨by rw [List.length_map, g1], by rw [m1, g2, e]; omega, fun x hx => ?_, fun i hi => ?_⟩
    · obtain ⟨y, hy, rfl⟩ := List.mem_map.1 hx
      rw [m2 y hy]
      have := hup y hy; omega
    · have h1 := hget i hi
      rw [hr i hi]
      exact ⟨fun h => by omega, fun _ => by omega, fun hz => by rw [h1.2 hz]; rfl⟩
  · rw [decide_eq_false hneg, cond_false]
    have e : sizedV total = total := by
      unfold sizedV
      rw [decide_eq_false hneg, cond_false, IntKind.wrap_u64]; omega
    refine ⟨g1, by rw [g2, e], fun x hx => by have := hup x hx; omega, fun i hi => ?_⟩
    have h1 := hget i hi
    exact ⟨fun _ => h1.1, fun h => by omega, h1.2⟩
theorem bne_me {x : Int} : (x != x) = false := by simp
theorem whole_loop (F : Nat) (total : Int) (ws : List Int) (hl : ws.length ≤ 256) (hok : okS total ws = true) : ∀ (r i kk : Nat), i + r = ws.length → r < kk → W10 F kk total ws (splitV total ws) i = oT := by
  obtain ⟨g1, g2, g3, g4⟩ := split_parts hok
  intro r
  induction r with
  | zero =>
    intro i kk hi hk
    obtain ⟨k, rfl⟩ : ∃ k, kk = k + 1 := ⟨kk - 1, by omega⟩
    rw [W10_eq, decide_eq_false (by rw [g1]; omega), sel_false]
  | succ r ih =>
    intro i kk hi hk
    obtain ⟨k, rfl⟩ : ∃ k, kk = k + 1 := ⟨kk - 1, by omega⟩
    have hlt : i < ws.length := by omega
    have e3 : IT.wrap ((i : Int) + 1) = ((i + 1 : Nat) : Int) := by rw [wr (by omega) (by omega)]; omega
    obtain ⟨h1, h2, h3⟩ := g4 i hlt
    have hrw : rI ws (i : Nat) = ws[i] := by unfold rI; simp [List.getD, hlt]
    rw [W10_eq, decide_eq_true (by rw [g1]; omega), sel_true, idxI _ _ (by omega) (by rw [g1]; omega), idxI ws _ (by omega) (by omega), hrw, e3, ih (i + 1) k (by omega) (by omega)]
    have e2 : r2W (rI (splitV total ws) (i : Nat)) ws[i] oT = oT := by
      unfold r2W
      by_cases hz : ws[i] = 0
      · rw [beq_ii hz, sel_true, h3 hz, bne_me, sel_false]
      · rw [beq_ni hz, sel_false]
    rw [e2]
    have e1 : r1W total (rI (splitV total ws) (i : Nat)) ws[i] oT = oT := by
      unfold r1W
      by_cases hp : 0 < rI (splitV total ws) (i : Nat)
      · rw [decide_eq_true hp, sel_true, decide_eq_false (fun h => by have := h2 h; omega), sel_false]
      · rw [decide_eq_false hp, sel_false]
    rw [e1]
    by_cases hn : rI (splitV total ws) (i : Nat) < 0
    · rw [decide_eq_true hn, sel_true, decide_eq_false (fun h => by have := h1 (by omega); omega), sel_false]
    · rw [decide_eq_false hn, sel_false]
theorem whole_ev (F : Nat) (hF : F = 400) (total : Int) (ws : List Int) : evX Try.prog CW (cnRow 1 TW) F fW [qInt, qInts] [qBool] (total, ws, ()) = oT := by
  rw [whole_tree]
  by_cases h1 : 256 < (ws.length : Int)
  · rw [decide_eq_true h1, sel_true]
  · rw [decide_eq_false h1, sel_false]
    cases hok : okS total ws with
    | false =>
      have e1 : spE total ws = 2 := by unfold spE; rw [hok]; rfl
      have e2 : spL total ws = [] := by unfold spL; rw [hok]; rfl
      rw [e1, e2]; rfl
    | true =>
      have e1 : spE total ws = 0 := by unfold spE; rw [hok]; rfl
      have e2 : spL total ws = splitV total ws := by unfold spL; rw [hok]; rfl
      obtain ⟨g1, g2, g3, g4⟩ := split_parts hok
      have hok2 : (Ax.mayB total && (sumV ws).2) = true := hok
      rw [Bool.and_eq_true] at hok2
      have hsm : Ax.smV (splitV total ws) = (total, 0) := by
        show Print.money_Sum.v (splitV total ws) = _
        have ha : (splitV total ws).all Print.mayB = true := by
          rw [List.all_eq_true]
          intro x hx
          have := g3 x hx
          simp only [Print.mayB, Bool.and_eq_true, decide_eq_true_eq]; omega
        have hm : Print.mayB total = true := hok2.1
        unfold Print.money_Sum.v Print.sumV
        rw [ha, g2, hm]; rfl
      rw [e1, e2, hsm, g1]
      show sel (Nat.ble ws.length 1000000) (sel ((0 : Int) != 0) oF (sel (total != total) oF (sel ((ws.length : Int) != (ws.length : Int)) oF (W10 F F total ws (splitV total ws) 0)))) none = oT
      rw [Nat.ble_eq_true_of_le (by omega), sel_true, bne_me, sel_false, bne_me, sel_false, bne_me, sel_false]
      exact whole_loop F total ws (by omega) hok ws.length 0 F (by omega) (by omega)
end Go.Proofs.Ythjondinjebalaa.Sh
namespace Go.Proofs.Ythjondinjebalaa.Print
open Go Go.RowKit Go.Proofs.YthjondinjebalaaW.PrintWords Go.Proofs.Ythjondinjebalaa.Ax Go.Proofs.Ythjondinjebalaa.Sh
set_option linter.unusedVariables false
def octroilaw03_ShareWhole.f (a0 : Int) (l1 : List Int) : Option Bool := some true
theorem octroilaw03_ShareWhole.calls (a0 : Int) (A1 : Option Addr) (c1 : Nat) (l1 : List Int) (r : Bool) (w : World) (hr1 : Kd.C (Kd.int .i64) w A1 l1.length l1) (hc1 : l1.length ≤ c1) (h : octroilaw03_ShareWhole.f a0 l1 = some r) :
    Calls Try.prog 4 #[.int .i64 a0, .slice A1 l1.length c1] w fun e w' => e = .returned (.bool r) ∧ Below w.heap.size w w' := by
  obtain rfl : true = r := Option.some.inj h
  obtain ⟨L, h1, h2⟩ := row_of_C (s := sI) (f := (fun x => x : Int → TT sI)) ints_enc rfl (by decide) hr1 hc1
  have e0 : (l1.map fun x => x : List (TT sI)) = l1 := List.map_id l1
  have h2 : ∀ ρ, OK ρ w L (.arg sI l1) := fun ρ => cast (congrArg (fun z : List (TT sI) => OK ρ w L (.arg sI z)) e0) (h2 ρ)
  have := calls_of_X Sh.mixed Try.func4 CW_ok (fun B' w => cnRow_ok) (whole_ev 400 rfl a0 l1) (fun _ => L) w (fun j o hj => by
    obtain ⟨rfl, rfl⟩ := look_one hj
    exact ⟨Nat.le_refl _, by decide, rfl, rfl, h2 _⟩)
  have hargs : (denL (fun _ => L) (encA [qInt, qInts] (a0, l1, ()) 0)).toArray = #[.int .i64 a0, .slice A1 l1.length c1] := by
    have h3 := h1 (fun _ => L) 0 rfl
    show (#[_, den (fun _ => L) (.all 0)] : Array Value) = _
    rw [h3]; rfl
  exact cast (congrArg (fun z => Calls Try.prog 4 z w fun e w' => e = .returned (.bool true) ∧ Below w.heap.size w w') hargs) this
end Go.Proofs.Ythjondinjebalaa.Print
namespace Go.Proofs.Ythjondinjebalaa.Print
open Go.RowKit Go.Proofs.YthjondinjebalaaW.PrintWords Go.Proofs.YthjondinjebalaaW.PrintLast
def octroilaw03_ShareWhole.Pure : Prop := ∀ (a0 : Int) (l1 : List Int), (Lit.int .i64 a0).wf = true → l1.length ≤ maxLen → l1.length * 8 ≤ 140737488351232 → (∀ x ∈ l1, (Lit.int .i64 x).wf = true) → octroilaw03_ShareWhole.f a0 l1 = some true
end Go.Proofs.Ythjondinjebalaa.Print
namespace Go.Proofs.Ythjondinjebalaa.Pure
open Go.RowKit Go.Proofs.Ythjondinjebalaa.Print
theorem ShareWhole : octroilaw03_ShareWhole.Pure := by
  unfold octroilaw03_ShareWhole.Pure
  intros; rfl
end Go.Proofs.Ythjondinjebalaa.Pure
