/- Plain laws of the document's numbers: as whole numbers again, their sums, differences. -/
import Derived.Test.YtdhmhdhfgojofaaX0
import Derived.Test.YtdhmhdhfgojofaaAx8
import Derived.Test.YtdhmhdhfgojofaaMoney
import Derived.Test.YtdhmhdhfgojofaaX1
import Derived.Test.YtdhmhdhfgojofaaX2
import Derived.Test.YtdhmhdhfgojofaaX3
import Derived.Test.YtdhmhdhfgojofaaX4
import Derived.Test.YtdhmhdhfgojofaaRef01A
import Derived.Test.YtdhmhdhfgojofaaMoney
namespace Go.Proofs.Ytdhmhdhfgojofaa.Print
open Go.RowKit Go.Proofs.YtdhmhdhfgojofaaW.PrintWords Go.Proofs.YtdhmhdhfgojofaaW.PrintLast Go.Proofs.YtdhmhdhfgojofaaW.PrintMore
set_option linter.unusedVariables false
set_option linter.unusedSimpArgs false
theorem of_ev_may (a : Int) (h : mayB a = true) : ∃ n l, Ev (fun k => octroiref01_Of.f k a) (n, l) ∧ IsNum n l a ∧ l.length ≤ 3 := by
  rw [mayB_iff] at h
  exact of_ev a (by omega) (by omega)
theorem int_loop (n : Bool) (l : List Int) (h : Dig l) (hv : dval l ≤ 4611686018427387904) (hl : l.length ≤ 1000000010) : ∀ (i : Nat) (x : Int), i ≤ l.length → x = dval (l.drop i) → 
    Ev (fun k => octroiref01_Int.l0 k x ((i : Int) - 1) n l) (if n = true then -dval l else dval l, true) := by
  intro i
  induction i with
  | zero =>
    intro x hi hx
    rw [List.drop_zero] at hx
    subst hx
    have h0 := dval_0 h
    refine Ev.step (f := fun _ => some (if n = true then -dval l else dval l, true)) (fun k => ?_) (Ev.now _)
    simp only [octroiref01_Int.l0]
    rw [if_neg (by omega)]
    cases n with
    | true => rw [if_pos rfl, w64 (by omega) (by omega)]; rfl
    | false => rw [if_neg (by simp)]; rfl
  | succ i ih =>
    intro x hi hx
    have e : ((i + 1 : Nat) : Int) - 1 = (i : Int) := by omega
    have hr := h.rd i (by omega)
    have hd := drop_rd l i (by omega)
    have hle : dval (l.drop i) ≤ dval l := by
      have h1 := dval_append (l.take i) (l.drop i)
      rw [List.take_append_drop] at h1
      have h2 := dval_0 (h.take i)
      have h3 := dval_0 (h.drop i)
      have h4 : 1 * dval (l.drop i) ≤ 2147483648 ^ (l.take i).length * dval (l.drop i) := Int.mul_le_mul_of_nonneg_right (by have := pow_pos' (l.take i).length; omega) h3
      omega
    have h0 := dval_0 (h.drop (i + 1))
    rw [hd] at hle
    simp only [dval] at hle
    rw [← hx] at hle h0
    have := ih (x * 2147483648 + rd l i) (by omega) (by rw [hd]; simp only [dval]; rw [← hx]; omega)
    refine Ev.step (fun k => ?_) this
    simp only [octroiref01_Int.l0]
    rw [e, if_pos (by omega), if_pos (by omega), if_pos (by omega), w64 (x := x * 2147483648) (by omega) (by omega), w64 (x := x * 2147483648 + rd l i) (by omega) (by omega), w64 (x := (i : Int) - 1) (by omega) (by omega)]
theorem int_ev (n : Bool) (l : List Int) (v : Int) (h : IsNum n l v) (hl : l.length ≤ 1000000010) :
    Ev (fun k => octroiref01_Int.f k n l) (if mayB v = true then (v, true) else (0, false)) := by
  obtain ⟨mn, ml, hm, im, lm⟩ := of_ev 4611686018427387904 (by omega) (by omega)
  obtain ⟨r, hr, ht⟩ := cmp_ev l ml h.dig im.dig h.nz im.nz hl (by omega)
  have ha := h.abs
  have hb := im.abs
  rw [if_neg (by omega)] at hb
  have hmay := mayB_iff v
  unfold Tells at ht
  by_cases rp : r > 0
  · have hno : ¬ (mayB v = true) := by
      rw [hmay]
      have := ht.1.1 rp
      split at ha <;> omega
    rw [if_neg hno]
    have := evb hm (f := fun bt k => (octroiref01_cmp.f k l bt.2).bind fun t => (if t > 0 then (some (0, false)) else (octroiref01_Int.l0 k 0 (wrap64 ((l.length : Int) - 1)) n l)))
      (evb hr (f := fun t k => (if t > 0 then (some (0, false)) else (octroiref01_Int.l0 k 0 (wrap64 ((l.length : Int) - 1)) n l))) (evn (fun k => by rw [if_pos rp])))
    exact this
  · have hle : dval l ≤ 4611686018427387904 := by
      have := ht.1
      omega
    have hyes : mayB v = true := by
      rw [hmay]
      split at ha <;> omega
    rw [if_pos hyes]
    have hlp := int_loop n l h.dig hle hl l.length 0 (Nat.le_refl _) (by rw [List.drop_eq_nil_of_le (Nat.le_refl _)]; rfl)
    rw [← h.val] at hlp
    have := evb hm (f := fun bt k => (octroiref01_cmp.f k l bt.2).bind fun t => (if t > 0 then (some (0, false)) else (octroiref01_Int.l0 k 0 (wrap64 ((l.length : Int) - 1)) n l)))
      (evb hr (f := fun t k => (if t > 0 then (some (0, false)) else (octroiref01_Int.l0 k 0 (wrap64 ((l.length : Int) - 1)) n l))) (Ev.congr (fun k => by rw [if_neg rp, w64 (by omega) (by omega)]) hlp))
    exact this
theorem ref_may (a : Int) : octroiref01_May.f a = some (mayB a) := by
  unfold octroiref01_May.f mayB
  by_cases h : a ≥ -4611686018427387904
  · rw [if_pos h, decide_eq_true (p := -4611686018427387904 ≤ a) h]; rfl
  · rw [if_neg h, decide_eq_false (p := -4611686018427387904 ≤ a) h]; rfl
theorem pro_may (a : Int) : money_May.f a = some (mayB a) := by
  unfold money_May.f mayB
  by_cases h : a ≥ -4611686018427387904
  · rw [if_pos h, decide_eq_true (p := -4611686018427387904 ≤ a) h]; rfl
  · rw [if_neg h, decide_eq_false (p := -4611686018427387904 ≤ a) h]; rfl
theorem sum_loop (l : List Int) (hl : l.length ≤ 1000000) (d : Nat) : ∀ (i : Nat) (n : Bool) (q : List Int) (s : Int), i + d = l.length → IsNum n q s → q.length ≤ 10 + i →
    Ev (fun k => octroiref01_Sum.l0 k l (i : Int) n q) (sumV ((l.drop i).all mayB) (s + (l.drop i).sum)) := by
  induction d with
  | zero =>
    intro i n q s hi hq hlen
    rw [List.drop_eq_nil_of_le (by omega)]
    simp only [List.all_nil, List.sum_nil, Int.add_zero, sumV, cond_true]
    have := evb (int_ev n q s hq (by omega)) (β := Int × Int) (f := fun bt _ => if bt.2 = true then (some (bt.1, 0)) else (some (0, 3))) (r := bif mayB s then (s, 0) else (0, 3)) (evn (fun k => by cases mayB s <;> simp))
    refine Ev.step (fun k => ?_) this
    simp only [octroiref01_Sum.l0]
    rw [if_neg (by omega)]
  | succ d ih =>
    intro i n q s hi hq hlen
    have hw : wrap64 ((i : Int) + 1) = ((i + 1 : Nat) : Int) := by rw [w64 (by omega) (by omega)]; omega
    rw [drop_rd l i (by omega)]
    simp only [List.all_cons, List.sum_cons]
    by_cases hm : mayB (rd l i) = true
    rotate_left
    · rw [Bool.not_eq_true] at hm
      rw [hm]
      simp only [Bool.false_and, sumV, cond_false]
      refine Ev.step (f := fun _ => some (0, 2)) (fun k => ?_) (Ev.now _)
      simp only [octroiref01_Sum.l0]
      rw [if_pos (by omega), if_pos (by omega), ref_may, hm]
      simp
    · obtain ⟨n1, l1, h1, i1, b1⟩ := of_ev_may _ hm
      rw [hm]
      simp only [Bool.true_and]
      obtain ⟨n2, l2, h2, i2, b2⟩ := add_ev n n1 q l1 s _ hq i1 (by omega) (by omega)
      have := ih (i + 1) n2 l2 (s + rd l i) (by omega) i2 (by omega)
      rw [Int.add_assoc] at this
      refine Ev.step (fun k => ?_) (evb h1 (f := fun bt k => (octroiref01_Add.f k n q bt.1 bt.2).bind fun bt => (octroiref01_Sum.l0 k l ((i + 1 : Nat) : Int) bt.1 bt.2)) (evb h2 (f := fun bt k => octroiref01_Sum.l0 k l ((i + 1 : Nat) : Int) bt.1 bt.2) this))
      simp only [octroiref01_Sum.l0]
      rw [if_pos (by omega), if_pos (by omega), ref_may, hm, hw]
      simp
theorem sum_ev (l : List Int) (hl : l.length ≤ 1000000) : Ev (fun k => octroiref01_Sum.f k l) (money_Sum.v l) := by
  have := sum_loop l hl l.length 0 false [] 0 (by omega) IsNum.zero (by simp)
  simpa [octroiref01_Sum.f, money_Sum.v] using this
end Go.Proofs.Ytdhmhdhfgojofaa.Print
