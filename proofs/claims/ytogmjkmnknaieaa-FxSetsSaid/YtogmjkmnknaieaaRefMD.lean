/- The document's MulDiv: a half away from nought; it is the document's answer that wide.MulDiv gives. -/
import Derived.Test.YtogmjkmnknaieaaX0
import Derived.Test.YtogmjkmnknaieaaAx4
import Derived.Test.YtogmjkmnknaieaaAx8
import Derived.Test.YtogmjkmnknaieaaRef04D
import Derived.Test.YtogmjkmnknaieaaX6
import Derived.Test.YtogmjkmnknaieaaX8
import Derived.Test.YtogmjkmnknaieaaRef01A
import Derived.Test.YtogmjkmnknaieaaX9
import Derived.Test.YtogmjkmnknaieaaRefM
namespace Go.Proofs.Ytogmjkmnknaieaa.Print
open Go.RowKit Go.Proofs.YtogmjkmnknaieaaW.PrintWords Go.Proofs.YtogmjkmnknaieaaW.PrintLast Go.Proofs.YtogmjkmnknaieaaW.PrintMore
set_option linter.unusedVariables false
set_option linter.unusedSimpArgs false
theorem dval_set : ∀ (l : List Int) (j : Nat) (v : Int), j < l.length → dval (l.set j v) = dval l + 2147483648 ^ j * (v - rd l (j : Int))
  | [], j, v, h => by simp at h
  | d :: l, 0, v, h => by
    rw [rd_nat]; simp only [List.set_cons_zero, dval, List.getD_cons_zero, Int.pow_zero]; omega
  | d :: l, j + 1, v, h => by
    have ih := dval_set l j v (by simpa using h)
    rw [rd_nat] at ih ⊢
    simp only [List.set_cons_succ, dval, List.getD_cons_succ, ih, Int.pow_succ]
    rw [Int.mul_add, ← Int.mul_assoc, Int.mul_comm 2147483648 (2147483648 ^ j)]
    omega
theorem rd_set (l : List Int) (j j' : Nat) (v : Int) (h : j < l.length) : rd (l.set j v) (j' : Int) = if j = j' then v else rd l (j' : Int) := by
  rw [rd_nat, rd_nat, List.getD_eq_getElem?_getD, List.getD_eq_getElem?_getD, List.getElem?_set]
  split
  · rename_i e; subst e; simp [h]
  · rfl
theorem Dig.set {l : List Int} (h : Dig l) (j : Nat) (v : Int) (hv : 0 ≤ v ∧ v < 2147483648) : Dig (l.set j v) := by
  intro d hd
  rcases List.mem_or_eq_of_mem_set hd with hd | hd
  · exact h d hd
  · subst hd; exact hv
theorem dig_mul {x y : Int} (hx : 0 ≤ x ∧ x < 2147483648) (hy : 0 ≤ y ∧ y < 2147483648) : 0 ≤ x * y ∧ x * y ≤ 4611686014132420609 :=
  ⟨Int.mul_nonneg hx.1 hy.1, by
    have := Int.mul_le_mul (show x ≤ 2147483647 by omega) (show y ≤ 2147483647 by omega) hy.1 (by omega)
    omega⟩
theorem step_nums {c r x s : Int} (hc : 0 ≤ c ∧ c < 2147483648) (hr : 0 ≤ r ∧ r < 2147483648) (hx : 0 ≤ x ∧ x ≤ 4611686014132420609) (hs : s = c + r + x) :
    wrap64 (c + r) = c + r ∧ wrap64 x = x ∧ wrap64 (c + r + x) = s ∧ Int.tmod s 2147483648 = s % 2147483648 ∧ wrap64 (Int.tdiv s 2147483648) = s / 2147483648 := by
  have sb : 0 ≤ s ∧ s ≤ 4611686018427387903 := by omega
  refine ⟨w64 (by omega) (by omega), w64 (by omega) (by omega), by rw [← hs]; exact w64 (by omega) (by omega), tmod_nn sb.1, ?_⟩
  rw [tdiv_nn sb.1]; exact w64 (by omega) (by omega)
theorem step_at {i k m : Nat} (h : i + k ≤ m) (hm : m ≤ 2000000000) : wrap64 ((i : Int) + (k : Int)) = ((i + k : Nat) : Int) := by rw [w64 (by omega) (by omega)]; omega
theorem step_one {k : Nat} (h : k ≤ 2000000000) : wrap64 ((k : Int) + 1) = ((k + 1 : Nat) : Int) := by rw [w64 (by omega) (by omega)]; omega
theorem mul_step (n1 n2 : Bool) (a b : List Int) {d : List Int} {q i k : Nat} {c r x s : Int} (hi : i < a.length) (hk : k < b.length) (hd : i + k < d.length) (la : a.length ≤ 1000000) (lb : b.length ≤ 1000000)
    (hc : 0 ≤ c ∧ c < 2147483648) (hr : 0 ≤ r ∧ r < 2147483648) (hx : 0 ≤ x ∧ x ≤ 4611686014132420609) (hre : rd d ((i + k : Nat) : Int) = r) (hxe : rd a (i : Int) * rd b (k : Int) = x) (hs : s = c + r + x) :
    octroiref01_Mul.l1 (q + 1) d (i : Int) c (k : Int) n1 a n2 b = octroiref01_Mul.l1 q (d.set (i + k) (s % 2147483648)) (i : Int) (s / 2147483648) ((k + 1 : Nat) : Int) n1 a n2 b := by
  have w1 := step_at (i := i) (k := k) (m := i + k) (Nat.le_refl _) (Nat.le_trans (Nat.add_le_add (Nat.le_trans (Nat.le_of_lt hi) la) (Nat.le_trans (Nat.le_of_lt hk) lb)) (by decide))
  have w2 := step_one (k := k) (Nat.le_trans (Nat.le_trans (Nat.le_of_lt hk) lb) (by decide))
  obtain ⟨q7, q8, q9, q10, q11⟩ := step_nums hc hr hx hs
  clear hs hc hr hx la lb
  have q1 : (k : Int) < (b.length : Int) := Int.ofNat_lt.2 hk
  have q2 : (0 : Int) ≤ ((i + k : Nat) : Int) := Int.natCast_nonneg _
  have q3 : ((i + k : Nat) : Int) < (d.length : Int) := Int.ofNat_lt.2 hd
  have q4 : (0 : Int) ≤ (i : Int) := Int.natCast_nonneg _
  have q5 : (i : Int) < (a.length : Int) := Int.ofNat_lt.2 hi
  have q6 : (0 : Int) ≤ (k : Int) := Int.natCast_nonneg _
  clear hk hd hi
  conv => lhs; unfold octroiref01_Mul.l1
  rw [if_pos q1, w1, w2, if_pos q2, if_pos q3, if_pos q4, if_pos q5, if_pos q6, Int.toNat_natCast, hre, hxe, q7, q8, q9, q10, q11]
section
variable (n1 n2 : Bool) (a b : List Int) (ha : Dig a) (hb : Dig b) (la : a.length ≤ 1000000) (lb : b.length ≤ 1000000)
include ha hb la lb
theorem mul_inner (i : Nat) (hi : i < a.length) (m : Nat) : ∀ (k : Nat) (c : Int) (d : List Int), k + m = b.length → Dig d → d.length = a.length + b.length + 1 → 0 ≤ c → c < 2147483648 →
    (∀ j : Nat, i + b.length ≤ j → rd d (j : Int) = 0) →
    ∃ d', Dig d' ∧ d'.length = a.length + b.length + 1 ∧ (∀ j : Nat, i + 1 + b.length ≤ j → rd d' (j : Int) = 0) ∧ dval d' = dval d + 2147483648 ^ (i + k) * (c + rd a (i : Int) * dval (b.drop k)) ∧
      ∀ R, Ev (fun q => octroiref01_Mul.l0 q d' ((i + 1 : Nat) : Int) n1 a n2 b) R → Ev (fun q => octroiref01_Mul.l1 q d (i : Int) c (k : Int) n1 a n2 b) R := by
  induction m with
  | zero =>
    intro k c d hk hd hl c0 c1 hz
    have hzz := hz (i + b.length) (Nat.le_refl _)
    refine ⟨d.set (i + b.length) c, hd.set _ _ ⟨c0, c1⟩, by rw [List.length_set]; exact hl, fun j hj => ?_, ?_, fun R hR => ?_⟩
    · rw [rd_set d _ _ _ (by omega), if_neg (by omega)]; exact hz j (by omega)
    · rw [dval_set d _ _ (by omega), hzz, List.drop_eq_nil_of_le (by omega), show k = b.length by omega]; simp [dval]
    · refine Ev.step (fun q => ?_) hR
      clear hz hd
      have w1 : wrap64 ((i : Int) + (b.length : Int)) = ((i + b.length : Nat) : Int) := by rw [w64 (by omega) (by omega)]; omega
      have w2 : wrap64 ((i : Int) + 1) = ((i + 1 : Nat) : Int) := by rw [w64 (by omega) (by omega)]; omega
      simp only [octroiref01_Mul.l1]
      rw [if_neg (by omega), w1, w2, if_pos (by omega), if_pos (by omega), Int.toNat_natCast, hzz, Int.zero_add, w64 (by omega) (by omega)]
  | succ m ih =>
    intro k c d hk hd hl c0 c1 hz
    have ra := ha.rd i hi
    have rb := hb.rd k (by omega)
    have rdd := hd.rd (i + k) (by omega)
    have hx := dig_mul ra rb
    obtain ⟨x, hxe⟩ : ∃ x, x = rd a (i : Int) * rd b (k : Int) := ⟨_, rfl⟩
    obtain ⟨r, hre⟩ : ∃ r, r = rd d ((i + k : Nat) : Int) := ⟨_, rfl⟩
    rw [← hxe] at hx
    rw [← hre] at rdd
    obtain ⟨s, hs⟩ : ∃ s, s = c + r + x := ⟨_, rfl⟩
    obtain ⟨d', g1, g2, g3, g4, g5⟩ := ih (k + 1) (s / 2147483648) (d.set (i + k) (s % 2147483648)) (by omega) (hd.set _ _ (by omega)) (by rw [List.length_set]; exact hl) (by omega) (by omega)
      (fun j hj => by rw [rd_set d _ _ _ (by omega), if_neg (by omega)]; exact hz j hj)
    refine ⟨d', g1, g2, g3, ?_, fun R hR => Ev.step (fun q => ?_) (g5 R hR)⟩
    · rw [g4, dval_set d _ _ (by omega), ← hre]
      have db := drop_rd b k (by omega)
      rw [db]
      simp only [dval]
      have e1 : rd a (i : Int) * (rd b (k : Int) + 2147483648 * dval (b.drop (k + 1))) = x + 2147483648 * (rd a (i : Int) * dval (b.drop (k + 1))) := by
        rw [Int.mul_add, ← hxe, ← Int.mul_assoc, Int.mul_comm (rd a (i : Int)) 2147483648, Int.mul_assoc]
      rw [e1]
      generalize rd a (i : Int) * dval (b.drop (k + 1)) = y
      rw [show i + (k + 1) = i + k + 1 by omega, Int.pow_succ]
      generalize (2147483648 : Int) ^ (i + k) = q
      have e2 : q * 2147483648 * (s / 2147483648 + y) = q * (2147483648 * (s / 2147483648 + y)) := Int.mul_assoc _ _ _
      rw [e2, Int.add_assoc, ← Int.mul_add]
      congr 2
      omega
    · rw [mul_step n1 n2 a b (q := q) hi (show k < b.length by omega) (show i + k < d.length by omega) la lb ⟨c0, c1⟩ rdd ⟨hx.1, hx.2⟩ hre.symm hxe.symm hs]
theorem mul_outer (m : Nat) : ∀ (i : Nat) (d : List Int), i + m = a.length → Dig d → d.length = a.length + b.length + 1 → (∀ j : Nat, i + b.length ≤ j → rd d (j : Int) = 0) →
    ∃ r, Ev (fun q => octroiref01_Mul.l0 q d (i : Int) n1 a n2 b) (if r = [] then false else n1 != n2, r) ∧ Dig r ∧ NZ r ∧ dval r = dval d + 2147483648 ^ i * (dval (a.drop i) * dval b) ∧ r.length ≤ a.length + b.length + 1 := by
  induction m with
  | zero =>
    intro i d hi hd hl hz
    obtain ⟨r, he, h1, h2, h3, h4⟩ := clean_ev d (by omega) hd
    refine ⟨r, ?_, h1, h2, ?_, by omega⟩
    · refine Ev.step (fun q => by simp only [octroiref01_Mul.l0]; rw [if_neg (by omega)]) (Ev.bind (f := fun _ t => if (t.length : Int) > 0 then some ((n1 != n2), t) else some (false, t)) he (evn fun k => ?_))
      cases r with
      | nil => rfl
      | cons x r => rw [if_pos (show ((x :: r).length : Int) > 0 by simp only [List.length_cons]; omega), if_neg (List.cons_ne_nil _ _)]
    · rw [h3, List.drop_eq_nil_of_le (by omega)]; simp [dval]
  | succ m ih =>
    intro i d hi hd hl hz
    obtain ⟨d', g1, g2, g3, g4, g5⟩ := mul_inner n1 n2 a b ha hb la lb i (by omega) b.length 0 0 d (by omega) hd hl (by omega) (by omega) hz
    obtain ⟨r, he, h1, h2, h3, h4⟩ := ih (i + 1) d' (by omega) g1 g2 g3
    refine ⟨r, ?_, h1, h2, ?_, h4⟩
    · refine Ev.step (fun q => by simp only [octroiref01_Mul.l0]; rw [if_pos (by omega)]) ?_
      exact g5 _ he
    · rw [h3, g4, drop_rd a i (by omega)]
      simp only [dval, List.drop_zero, Nat.add_zero, Int.zero_add, Int.pow_succ]
      rw [Int.add_mul, Int.mul_add, Int.mul_assoc (2147483648 ^ i) 2147483648, Int.mul_assoc 2147483648]
      omega
theorem mulD_ev : ∃ r, Ev (fun k => octroiref01_Mul.f k n1 a n2 b) (if r = [] then false else n1 != n2, r) ∧ Dig r ∧ NZ r ∧ dval r = dval a * dval b ∧ r.length ≤ a.length + b.length + 1 := by
  obtain ⟨r, he, h1, h2, h3, h4⟩ := mul_outer n1 n2 a b ha hb la lb a.length 0 (List.replicate (a.length + b.length + 1) 0) (by omega) (by intro d hd; rw [List.eq_of_mem_replicate hd]; omega) (by simp) (by
    intro j hj
    rw [rd_nat, List.getD_eq_getElem?_getD, List.getElem?_replicate]; split <;> rfl)
  refine ⟨r, Ev.congr (fun k => ?_) he, h1, h2, ?_, h4⟩
  · have w1 : wrap64 (wrap64 ((a.length : Int) + (b.length : Int)) + 1) = ((a.length + b.length + 1 : Nat) : Int) := by rw [w64 (x := (a.length : Int) + b.length) (by omega) (by omega), w64 (by omega) (by omega)]; omega
    unfold octroiref01_Mul.f
    rw [w1, if_pos (by omega), Int.toNat_natCast, if_pos (by omega)]
    rfl
  · rw [h3]
    have : dval (List.replicate (a.length + b.length + 1) 0) = 0 := by
      generalize a.length + b.length + 1 = n
      induction n with
      | zero => rfl
      | succ n ih => simp only [List.replicate_succ, dval, ih]; rfl
    rw [this]; simp
end
theorem dval_nil_iff {l : List Int} (h : Dig l) (hz : NZ l) : l = [] ↔ dval l = 0 := by
  constructor
  · intro e; rw [e]; rfl
  · intro e
    apply Decidable.byContradiction
    intro hn
    have := dval_ge h hz hn
    have := pow_pos' (l.length - 1)
    omega
theorem mulN_ev (n1 n2 : Bool) (l1 l2 : List Int) (v1 v2 : Int) (h1 : IsNum n1 l1 v1) (h2 : IsNum n2 l2 v2) (b1 : l1.length ≤ 1000000) (b2 : l2.length ≤ 1000000) :
    ∃ n l, Ev (fun k => octroiref01_Mul.f k n1 l1 n2 l2) (n, l) ∧ IsNum n l (v1 * v2) ∧ l.length ≤ l1.length + l2.length + 1 := by
  obtain ⟨r, he, r1, r2, r3, r4⟩ := mulD_ev n1 n2 l1 l2 h1.dig h2.dig b1 b2
  refine ⟨_, r, he, ⟨r1, r2, ?_, ?_⟩, r4⟩
  · intro hn
    have hne : ¬ r = [] := by intro e; rw [if_pos e] at hn; cases hn
    have h0 := dval_0 r1
    have : ¬ dval r = 0 := fun e => hne ((dval_nil_iff r1 r2).2 e)
    omega
  · have e1 := h1.val
    have e2 := h2.val
    by_cases hr : r = []
    · rw [if_pos hr]
      have h0 := (dval_nil_iff r1 r2).1 hr
      rw [r3] at h0
      have hv : v1 * v2 = 0 := by
        rw [e1, e2]
        cases n1 <;> cases n2 <;> simp only [Int.neg_mul, Int.mul_neg, Int.neg_neg, h0, Bool.false_eq_true, if_true, if_false, Int.neg_zero]
      rw [hv, r3, h0]; rfl
    · rw [if_neg hr, e1, e2, r3]
      cases n1 <;> cases n2 <;> simp [Int.neg_mul, Int.mul_neg]
theorem cmpN_ev (n1 n2 : Bool) (l1 l2 : List Int) (v1 v2 : Int) (h1 : IsNum n1 l1 v1) (h2 : IsNum n2 l2 v2) (b1 : l1.length ≤ 1000000010) (b2 : l2.length ≤ 1000000010) :
    ∃ r, Ev (fun k => octroiref01_Cmp.f k n1 l1 n2 l2) r ∧ (r < 0 ↔ v1 < v2) ∧ (r ≤ 0 ↔ v1 ≤ v2) := by
  obtain ⟨t, he, ht⟩ := cmp_ev l1 l2 h1.dig h2.dig h1.nz h2.nz b1 b2
  have d1 := dval_0 h1.dig
  have d2 := dval_0 h2.dig
  have e1 := h1.val
  have e2 := h2.val
  have p1 := h1.pos
  have p2 := h2.pos
  obtain ⟨t1, t2, t3, t4⟩ := ht
  have wt : wrap64 (-t) = -t := w64 (by omega) (by omega)
  cases n1 <;> cases n2
  · refine ⟨t, Ev.congr (fun k => by unfold octroiref01_Cmp.f; rw [if_neg (by decide)]) (Ev.bind (f := fun _ t => if false = true then some (wrap64 (-t)) else some t) he (evn fun k => by rw [if_neg (by decide)])), ?_⟩
    simp at e1 e2; omega
  · refine ⟨1, evn fun k => by unfold octroiref01_Cmp.f; rw [if_pos (by decide), if_neg (by decide)], ?_⟩
    have := p2 rfl
    simp at e1 e2; omega
  · refine ⟨-1, evn fun k => by unfold octroiref01_Cmp.f; rw [if_pos (by decide), if_pos (by decide)], ?_⟩
    have := p1 rfl
    simp at e1 e2; omega
  · refine ⟨-t, Ev.congr (fun k => by unfold octroiref01_Cmp.f; rw [if_neg (by decide)]) (Ev.bind (f := fun _ t => if true = true then some (wrap64 (-t)) else some t) he (evn fun k => by rw [if_pos rfl, wt])), ?_⟩
    have := p1 rfl
    have := p2 rfl
    simp at e1 e2; omega
end Go.Proofs.Ytogmjkmnknaieaa.Print
namespace Go.Proofs.Ytogmjkmnknaieaa.Print
open Go.RowKit Go.Proofs.YtogmjkmnknaieaaW.PrintWords Go.Proofs.YtogmjkmnknaieaaW.PrintLast Go.Proofs.YtogmjkmnknaieaaW.PrintMore
set_option linter.unusedVariables false
set_option linter.unusedSimpArgs false
set_option linter.unusedSectionVars false
theorem quo_uniq {v D x : Int} (hD : 0 < D) (h1 : x * D ≤ v) (h2 : v < (x + 1) * D) : v / D = x := by
  rw [Int.add_mul, Int.one_mul] at h2
  have e : v = (v - x * D) + x * D := by omega
  rw [e, Int.add_mul_ediv_right _ _ (by omega), Int.ediv_eq_zero_of_lt (by omega) (by omega)]
  omega
theorem mid_facts {low high : Int} (h0 : 0 ≤ low) (h1 : low < high) (h2 : high ≤ 9223372036854775807) :
    wrap64 (high - wrap64 (Int.tdiv (wrap64 (high - low)) 2)) = high - (high - low) / 2 ∧ low < high - (high - low) / 2 ∧ high - (high - low) / 2 ≤ high ∧ wrap64 (high - (high - low) / 2 - 1) = high - (high - low) / 2 - 1 := by
  have w1 : wrap64 (high - low) = high - low := w64 (by omega) (by omega)
  have w2 : Int.tdiv (high - low) 2 = (high - low) / 2 := Int.tdiv_eq_ediv_of_nonneg (by omega)
  have w3 : wrap64 ((high - low) / 2) = (high - low) / 2 := w64 (by omega) (by omega)
  rw [w1, w2, w3]
  refine ⟨w64 (by omega) (by omega), by omega, by omega, w64 (by omega) (by omega)⟩
section
variable (n dn : Bool) (l dl : List Int) (v D : Int) (hn : IsNum n l v) (hd : IsNum dn dl D) (ln : l.length ≤ 1000000) (ld : dl.length ≤ 1000) (hD : 0 < D)
include hn hd ln ld hD
theorem half_look (mid : Int) (m0 : 0 ≤ mid) (m1 : mid ≤ 9223372036854775807) {α : Type} {F : Nat → Int → Option α} {R : α} (h1 : mid * D ≤ v → ∀ t, t ≤ 0 → Ev (fun k => F k t) R) (h2 : ¬ mid * D ≤ v → ∀ t, ¬ t ≤ 0 → Ev (fun k => F k t) R) :
    Ev (fun k => (octroiref01_Of.f k mid).bind fun b => (octroiref01_Mul.f k b.1 b.2 dn dl).bind fun c => (octroiref01_Cmp.f k c.1 c.2 n l).bind fun t => F k t) R := by
  obtain ⟨n1, l1, e1, i1, b1⟩ := of_ev mid (by omega) (by omega)
  obtain ⟨n2, l2, e2, i2, b2⟩ := mulN_ev n1 dn l1 dl mid D i1 hd (by omega) (by omega)
  obtain ⟨t, e3, t1, t2⟩ := cmpN_ev n2 n l2 l (mid * D) v i2 hn (by omega) (by omega)
  refine Ev.bind (f := fun k b => (octroiref01_Mul.f k b.1 b.2 dn dl).bind fun c => (octroiref01_Cmp.f k c.1 c.2 n l).bind fun t => F k t) e1 ?_
  refine Ev.bind (f := fun k c => (octroiref01_Cmp.f k c.1 c.2 n l).bind fun t => F k t) e2 ?_
  refine Ev.bind (f := fun k t => F k t) e3 ?_
  by_cases h : mid * D ≤ v
  · exact h1 h t (t2.2 h)
  · exact h2 h t (fun ht => h (t2.1 ht))
theorem half_loop (m : Nat) : ∀ (low high : Int), 0 ≤ low → low ≤ high → high ≤ 4611686018427387905 → (high - low).toNat ≤ m → low * D ≤ v → v < (high + 1) * D →
    Ev (fun k => octroiref02_half.l0 k low high n l dn dl) (v / D) := by
  induction m with
  | zero =>
    intro low high h0 h1 h2 hm hl hh
    obtain rfl : low = high := by omega
    rw [quo_uniq hD hl hh]
    exact Ev.step (f := fun _ => some low) (fun k => by simp only [octroiref02_half.l0]; rw [if_neg (by omega)]) (Ev.now _)
  | succ m ih =>
    intro low high h0 h1 h2 hm hl hh
    by_cases hlt : low < high
    · obtain ⟨w1, w2, w3, w4⟩ := mid_facts h0 hlt (by omega)
      refine Ev.step (f := fun k => (octroiref01_Of.f k (high - (high - low) / 2)).bind fun b => (octroiref01_Mul.f k b.1 b.2 dn dl).bind fun c => (octroiref01_Cmp.f k c.1 c.2 n l).bind fun t =>
        if t ≤ 0 then octroiref02_half.l0 k (high - (high - low) / 2) high n l dn dl else octroiref02_half.l0 k low (high - (high - low) / 2 - 1) n l dn dl) (fun k => by simp only [octroiref02_half.l0]; rw [if_pos hlt, w1, w4]) ?_
      refine half_look n dn l dl v D hn hd ln ld hD _ (by omega) (by omega) (F := fun k t => if t ≤ 0 then octroiref02_half.l0 k (high - (high - low) / 2) high n l dn dl else octroiref02_half.l0 k low (high - (high - low) / 2 - 1) n l dn dl) ?_ ?_
      · intro hv t ht
        exact Ev.congr (fun k => if_pos ht) (ih _ _ (by omega) (by omega) (by omega) (by omega) hv hh)
      · intro hv t ht
        refine Ev.congr (fun k => if_neg ht) (ih _ _ (by omega) (by omega) (by omega) (by omega) hl ?_)
        rw [show high - (high - low) / 2 - 1 + 1 = high - (high - low) / 2 by omega]; omega
    · obtain rfl : low = high := by omega
      rw [quo_uniq hD hl hh]
      exact Ev.step (f := fun _ => some low) (fun k => by simp only [octroiref02_half.l0]; rw [if_neg (by omega)]) (Ev.now _)
end
theorem half_ev (n : Bool) (l : List Int) (v c : Int) (hn : IsNum n l v) (ln : l.length ≤ 1000000) (v0 : 0 ≤ v) (c1 : 1 ≤ c) (c2 : c ≤ 4611686018427387904) :
    Ev (fun k => octroiref02_half.f k n l c) (if 4611686018427387905 * (c * 2) ≤ v then -1 else v / (c * 2)) := by
  obtain ⟨n1, l1, e1, i1, b1⟩ := of_ev c (by omega) (by omega)
  obtain ⟨n2, l2, e2, i2, b2⟩ := of_ev 2 (by omega) (by omega)
  obtain ⟨n3, l3, e3, i3, b3⟩ := mulN_ev n1 n2 l1 l2 c 2 i1 i2 (by omega) (by omega)
  unfold octroiref02_half.f
  refine Ev.bind e1 ?_
  dsimp only
  refine Ev.bind e2 ?_
  dsimp only
  refine Ev.bind e3 ?_
  dsimp only
  refine half_look n n3 l l3 v (c * 2) hn i3 ln (by omega) (by omega) 4611686018427387905 (by decide) (by decide) (F := fun k t222 => if t222 ≤ 0 then (some (-1)) else (octroiref02_half.l0 k 0 4611686018427387905 n l n3 l3)) ?_ ?_
  · intro hv t ht
    rw [if_pos hv]
    exact Ev.congr (fun k => if_pos ht) (Ev.now _)
  · intro hv t ht
    rw [if_neg hv]
    have hD : 0 < c * 2 := by omega
    have hz : 0 * (c * 2) ≤ v := by rw [Int.zero_mul]; exact v0
    have hh : v < (4611686018427387905 + 1) * (c * 2) := by rw [Int.add_mul]; omega
    have l3' : l3.length ≤ 1000 := by omega
    have := half_loop n n3 l l3 v (c * 2) hn i3 ln l3' hD (4611686018427387905 - 0 : Int).toNat 0 4611686018427387905 (by decide) (by decide) (by decide) (Nat.le_refl _) hz hh
    exact Ev.congr (fun k => if_neg ht) this
end Go.Proofs.Ytogmjkmnknaieaa.Print
namespace Go.Proofs.Ytogmjkmnknaieaa.Ax
open Go Go.RowKit Go.Proofs.Ytogmjkmnknaieaa.Print Go.Proofs.YtogmjkmnknaieaaW.PrintWords
set_option linter.unusedVariables false
set_option linter.unusedSimpArgs false
def res2I (x y : Int) : Option SV := some (.tup [.v (.int .i64 x), .v (.int .i64 y)])
noncomputable def mdE (y : Bool × List Int) (y6 : Int) : Option SV :=
  sel (decide (y6 < 0)) (res2I 0 3) (sel (!mayB y6) (res2I 0 3) (sel y.1 (res2I (IntKind.i64.wrap (0 - y6)) 0) (res2I y6 0)))
noncomputable def mdG (O : Int → Option (Bool × List Int)) (M A : Bool → List Int → Bool → List Int → Option (Bool × List Int)) (H : Bool → List Int → Int → Option Int) (a b c : Int) : Option SV :=
  obnd (O a) fun y => obnd (O b) fun y_1 => sel (okLen y.snd) (sel (okLen y_1.snd)
    (obnd (M y.fst y.snd y_1.fst y_1.snd) fun y => obnd (O 2) fun y_2 => sel (okLen y.snd) (sel (okLen y_2.snd)
      (obnd (M false y.snd y_2.fst y_2.snd) fun y_3 => obnd (O c) fun y_4 => sel (okLen y_3.snd) (sel (okLen y_4.snd)
        (obnd (A y_3.fst y_3.snd y_4.fst y_4.snd) fun y_5 => sel (okLen y_5.snd) (obnd (H y_5.fst y_5.snd c) fun y_6 => mdE y y_6) none)
        none) none) none) none) none) none
theorem md_tree (k : Nat) (a b c : Int) : evFn Try.prog (CRef k) cn0 8 Try.f27 [.v (.int .i64 a), .v (.int .i64 b), .v (.int .i64 c)] [] 0 K1 =
    sel (!mayB a) (res2I 0 2) (sel (!mayB b) (res2I 0 2) (sel (!mayB c) (res2I 0 2) (sel (decide (c < 1)) (res2I 0 2) (mdG (octroiref01_Of.f k) (octroiref01_Mul.f k) (octroiref01_Add.f k) (octroiref02_half.f k) a b c)))) := by kernel_rfl
theorem okLen_of {l : List Int} (h : l.length ≤ 1000000) : okLen l = true := Nat.ble_eq_true_of_le (Nat.le_trans h (by decide))
theorem wrapI64 {x : Int} (h1 : -9223372036854775808 ≤ x) (h2 : x < 9223372036854775808) : IntKind.i64.wrap x = x := by
  rw [IntKind.wrap_i64]; omega
theorem mdE_eq (a b c : Int) (hr : rightV a b c = true) (n : Bool) (l : List Int) (hn : IsNum n l (a * b)) (y : Int)
    (hy : y = if 4611686018427387905 * (c * 2) ≤ mag a * mag b * 2 + c then -1 else (mag a * mag b * 2 + c) / (c * 2)) : mdE (n, l) y = res2I (mulDivV a b c).1 (mulDivV a b c).2 := by
  have hr' := hr
  rw [rightV_iff] at hr'
  obtain ⟨ha, hb, hc⟩ := hr'
  obtain ⟨P, hP⟩ : ∃ P, P = mag a * mag b := ⟨_, rfl⟩
  have hP0 : 0 ≤ P := by rw [hP]; exact Int.mul_nonneg (mag_nn a) (mag_nn b)
  have hh : (P * 2 + c) / (c * 2) = halfV P c := by unfold halfV; rw [Int.mul_comm P 2, Int.mul_comm c 2]
  obtain ⟨s1, s2⟩ := half_spec P c (by omega)
  have s0 := half_nn P c hP0 (by omega)
  have hneg := hn.neg
  obtain ⟨m1, m2⟩ := mag_mul a b
  unfold mulDivV
  rw [if_pos hr, ← hP]
  rw [← hP, hh] at hy
  rw [← hP] at m1
  unfold mdE overV
  by_cases hbig : 4611686018427387905 * (c * 2) ≤ P * 2 + c
  · rw [if_pos hbig] at hy
    have hgt : ¬ halfV P c ≤ 4611686018427387904 := by
      intro hle
      have : 2 * c * halfV P c ≤ 2 * c * 4611686018427387904 := Int.mul_le_mul_of_nonneg_left hle (by omega)
      omega
    rw [if_neg hgt, hy]; rfl
  · rw [if_neg hbig] at hy
    rw [hy, decide_eq_false (show ¬ halfV P c < 0 by omega)]
    simp only [sel_false]
    by_cases hle : halfV P c ≤ 4611686018427387904
    · rw [if_pos hle, (mayB_iff _).2 ⟨by omega, hle⟩]
      simp only [Bool.not_true, sel_false]
      rw [wrapI64 (by omega) (by omega), hneg]
      rcases m2 with m2 | m2
      · have : P = 0 := by rw [m1, m2]; rfl
        have hz : halfV P c = 0 := by rw [this]; unfold halfV; exact Int.ediv_eq_zero_of_lt (by omega) (by omega)
        rw [hz, m2]
        cases decide (a < 0) <;> cases decide (b < 0) <;> rfl
      · rw [m2]
        cases decide (a < 0) <;> cases decide (b < 0) <;> simp [sel_true, sel_false]
    · have : mayB (halfV P c) = false := by
        cases hm : mayB (halfV P c) with
        | false => rfl
        | true => rw [mayB_iff] at hm; omega
      rw [if_neg hle, this]; rfl
theorem md_lens {x1 x2 x3 x4 x5 x6 x7 : Nat} (b1 : x1 ≤ 3) (b2 : x2 ≤ 3) (b3 : x3 ≤ x1 + x2 + 1) (b4 : x4 ≤ 3) (b5 : x5 ≤ x3 + x4 + 1) (b6 : x6 ≤ 3) (b7 : x7 ≤ max x5 x6 + 1) :
    x1 ≤ 1000000 ∧ x2 ≤ 1000000 ∧ x3 ≤ 1000000 ∧ x4 ≤ 1000000 ∧ x5 ≤ 1000000 ∧ x6 ≤ 1000000 ∧ x7 ≤ 1000000 := by omega
theorem nn2 {p c : Int} (h : 0 ≤ p) (h2 : 1 ≤ c) : 0 ≤ p * 2 + c := by omega
theorem md_chain {O : Int → Option (Bool × List Int)} {M A : Bool → List Int → Bool → List Int → Option (Bool × List Int)} {H : Bool → List Int → Int → Option Int} {a b c y : Int} {n1 n2 n3 n4 n5 n6 n7 : Bool} {l1 l2 l3 l4 l5 l6 l7 : List Int} {R : Option SV} (k1 : okLen l1 = true) (k2 : okLen l2 = true) (k3 : okLen l3 = true) (k4 : okLen l4 = true) (k5 : okLen l5 = true) (k6 : okLen l6 = true) (k7 : okLen l7 = true)
    (e1 : O a = some (n1, l1)) (e2 : O b = some (n2, l2)) (e3 : M n1 l1 n2 l2 = some (n3, l3)) (e4 : O 2 = some (n4, l4)) (e5 : M false l3 n4 l4 = some (n5, l5)) (e6 : O c = some (n6, l6)) (e7 : A n5 l5 n6 l6 = some (n7, l7)) (e8 : H n7 l7 c = some y)
    (h : mdE (n3, l3) y = R) : mdG O M A H a b c = R := by
  simp only [mdG, e1, e2, obnd_some, k1, k2, k3, k4, k5, k6, k7, sel_true, e3, e4, e5, e6, e7, e8, h]
theorem ev8 {α1 α2 α3 α4 α5 α6 α7 α8 : Type} {g1 : Nat → Option α1} {g2 : Nat → Option α2} {g3 : Nat → Option α3} {g4 : Nat → Option α4} {g5 : Nat → Option α5} {g6 : Nat → Option α6} {g7 : Nat → Option α7} {g8 : Nat → Option α8} {x1 x2 x3 x4 x5 x6 x7 x8}
    (e1 : Ev g1 x1) (e2 : Ev g2 x2) (e3 : Ev g3 x3) (e4 : Ev g4 x4) (e5 : Ev g5 x5) (e6 : Ev g6 x6) (e7 : Ev g7 x7) (e8 : Ev g8 x8) :
    ∃ k, g1 k = some x1 ∧ g2 k = some x2 ∧ g3 k = some x3 ∧ g4 k = some x4 ∧ g5 k = some x5 ∧ g6 k = some x6 ∧ g7 k = some x7 ∧ g8 k = some x8 := by
  obtain ⟨K1, e1⟩ := e1
  obtain ⟨K2, e2⟩ := e2
  obtain ⟨K3, e3⟩ := e3
  obtain ⟨K4, e4⟩ := e4
  obtain ⟨K5, e5⟩ := e5
  obtain ⟨K6, e6⟩ := e6
  obtain ⟨K7, e7⟩ := e7
  obtain ⟨K8, e8⟩ := e8
  exact ⟨K1 + K2 + K3 + K4 + K5 + K6 + K7 + K8, e1 _ (by omega), e2 _ (by omega), e3 _ (by omega), e4 _ (by omega), e5 _ (by omega), e6 _ (by omega), e7 _ (by omega), e8 _ (by omega)⟩
theorem md_ev (a b c : Int) (hr : rightV a b c = true) : ∃ k, mdG (octroiref01_Of.f k) (octroiref01_Mul.f k) (octroiref01_Add.f k) (octroiref02_half.f k) a b c = res2I (mulDivV a b c).1 (mulDivV a b c).2 := by
  have hr' := hr
  rw [rightV_iff] at hr'
  obtain ⟨n1, l1, e1, i1, b1⟩ := of_ev a (by omega) (by omega)
  obtain ⟨n2, l2, e2, i2, b2⟩ := of_ev b (by omega) (by omega)
  obtain ⟨n3, l3, e3, i3, b3⟩ := mulN_ev n1 n2 l1 l2 a b i1 i2 (by omega) (by omega)
  obtain ⟨n4, l4, e4, i4, b4⟩ := of_ev 2 (by omega) (by omega)
  have i3' : IsNum false l3 (dval l3) := ⟨i3.dig, i3.nz, (fun h => by cases h), (by simp)⟩
  obtain ⟨n5, l5, e5, i5, b5⟩ := mulN_ev false n4 l3 l4 (dval l3) 2 i3' i4 (by omega) (by omega)
  obtain ⟨n6, l6, e6, i6, b6⟩ := of_ev c (by omega) (by omega)
  obtain ⟨n7, l7, e7, i7, b7⟩ := add_ev n5 n6 l5 l6 (dval l3 * 2) c i5 i6 (by omega) (by omega)
  obtain ⟨c1, c2, c3, c4, c5, c6, c7⟩ := md_lens b1 b2 b3 b4 b5 b6 b7
  have k1 : okLen l1 = true := okLen_of c1
  have k2 : okLen l2 = true := okLen_of c2
  have k3 : okLen l3 = true := okLen_of c3
  have k4 : okLen l4 = true := okLen_of c4
  have k5 : okLen l5 = true := okLen_of c5
  have k6 : okLen l6 = true := okLen_of c6
  have k7 : okLen l7 = true := okLen_of c7
  have hc1 : 1 ≤ c := hr'.2.2.1
  have hc2 : c ≤ 4611686018427387904 := hr'.2.2.2
  clear b1 b2 b3 b4 b5 b6 b7 hr'
  have hv : dval l3 = mag a * mag b := by rw [i3.abs, (mag_mul a b).1]
  have hP0 : 0 ≤ mag a * mag b := Int.mul_nonneg (mag_nn a) (mag_nn b)
  rw [hv] at i7
  have e8 := half_ev n7 l7 (mag a * mag b * 2 + c) c i7 c7 (nn2 hP0 hc1) hc1 hc2
  obtain ⟨k, f1, f2, f3, f4, f5, f6, f7, f8⟩ := ev8 e1 e2 e3 e4 e5 e6 e7 e8
  exact ⟨k, md_chain k1 k2 k3 k4 k5 k6 k7 f1 f2 f3 f4 f5 f6 f7 f8 (mdE_eq a b c hr n3 l3 i3 _ rfl)⟩
theorem refMulDiv_ev (a b c : Int) : ∃ k, evFn Try.prog (CRef k) cn0 8 Try.f27 [.v (.int .i64 a), .v (.int .i64 b), .v (.int .i64 c)] [] 0 K1 = some (.tup [.v (.int .i64 (mulDivV a b c).1), .v (.int .i64 (mulDivV a b c).2)]) := by
  cases hr : rightV a b c with
  | false =>
    refine ⟨0, ?_⟩
    rw [md_tree]
    have hm : mulDivV a b c = (0, 2) := by unfold mulDivV; rw [hr]; rfl
    rw [hm]
    have hr' : (mayB a && (mayB b && (mayB c && decide (1 ≤ c)))) = false := hr
    cases h1 : mayB a with
    | false => rfl
    | true =>
      cases h2 : mayB b with
      | false => rfl
      | true =>
        cases h3 : mayB c with
        | false => rfl
        | true =>
          rw [h1, h2, h3] at hr'
          simp at hr'
          rw [decide_eq_true (show c < 1 by omega)]; rfl
  | true =>
    obtain ⟨K, hK⟩ := md_ev a b c hr
    refine ⟨K, ?_⟩
    rw [md_tree]
    have hr' := hr
    rw [rightV_iff] at hr'
    rw [(mayB_iff a).2 (by omega), (mayB_iff b).2 (by omega), (mayB_iff c).2 (by omega), decide_eq_false (show ¬ c < 1 by omega)]
    exact hK
end Go.Proofs.Ytogmjkmnknaieaa.Ax
namespace Go.Proofs.Ytogmjkmnknaieaa.Print
open Go Go.RowKit Go.Proofs.Ytogmjkmnknaieaa.Ax
def octroiref02_MulDiv.f (a b c : Int) : Option (Int × Int) := some (mulDivV a b c)
theorem octroiref02_MulDiv.calls (a b c r1 r2 : Int) (w : World) (h : octroiref02_MulDiv.f a b c = some (r1, r2)) :
    Calls Try.prog 27 #[.int .i64 a, .int .i64 b, .int .i64 c] w fun e w' => e = .returned (.tuple #[.int .i64 r1, .int .i64 r2]) ∧ Below w.heap.size w w' := by
  have hv : mulDivV a b c = (r1, r2) := Option.some.inj h
  obtain ⟨k, hk⟩ := refMulDiv_ev a b c
  rw [hv] at hk
  exact calls_of_ev mixed Try.func27 (by kernel_rfl) rfl (CRef_ok k) (fun B' w => cn0_ok B' w _) hk rfl rfl rfl rho0 w
end Go.Proofs.Ytogmjkmnknaieaa.Print
