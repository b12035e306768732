/- The document's halving: the greatest number that, times 2c, is not above a number. -/
import Derived.Test.YtdhmhdhfgojofaaX0
import Derived.Test.YtdhmhdhfgojofaaAx4
import Derived.Test.YtdhmhdhfgojofaaAx8
import Derived.Test.YtdhmhdhfgojofaaRef01B
import Derived.Test.YtdhmhdhfgojofaaX3
import Derived.Test.YtdhmhdhfgojofaaX5
import Derived.Test.YtdhmhdhfgojofaaX6
import Derived.Test.YtdhmhdhfgojofaaRef01B
namespace Go.Proofs.Ytdhmhdhfgojofaa.Print
open Go.RowKit Go.Proofs.YtdhmhdhfgojofaaW.PrintWords Go.Proofs.YtdhmhdhfgojofaaW.PrintLast Go.Proofs.YtdhmhdhfgojofaaW.PrintMore
set_option linter.unusedVariables false
set_option linter.unusedSimpArgs false
set_option linter.unusedSectionVars false
theorem quo_uniq {v D x : Int} (hD : 0 < D) (h1 : x * D ≤ v) (h2 : v < (x + 1) * D) : v / D = x := by
  rw [Int.add_mul, Int.one_mul] at h2
  have e : v = (v - x * D) + x * D := by omega
  rw [e, Int.add_mul_ediv_right _ _ (by omega), Int.ediv_eq_zero_of_lt (by omega) (by omega)]
  omega
theorem mid_facts {low high : Int} (h0 : 0 ≤ low) (h1 : low < high) (h2 : high ≤ 9223372036854775807) :
    wrap64 (high - wrap64 (Int.tdiv (wrap64 (high - low)) 2)) = high - (high - low) / 2 ∧ low < high - (high - low) / 2 ∧ high - (high - low) / 2 ≤ high ∧ wrap64 (high - (high - low) / 2 - 1) = high - (high - low) / 2 - 1 := by
  have w1 : wrap64 (high - low) = high - low := w64 (by omega) (by omega)
  have w2 : Int.tdiv (high - low) 2 = (high - low) / 2 := Int.tdiv_eq_ediv_of_nonneg (by omega)
  have w3 : wrap64 ((high - low) / 2) = (high - low) / 2 := w64 (by omega) (by omega)
  rw [w1, w2, w3]
  refine ⟨w64 (by omega) (by omega), by omega, by omega, w64 (by omega) (by omega)⟩
section
variable (n dn : Bool) (l dl : List Int) (v D : Int) (hn : IsNum n l v) (hd : IsNum dn dl D) (ln : l.length ≤ 1000000) (ld : dl.length ≤ 1000) (hD : 0 < D)
include hn hd ln ld hD
theorem half_look (mid : Int) (m0 : 0 ≤ mid) (m1 : mid ≤ 9223372036854775807) {α : Type} {F : Nat → Int → Option α} {R : α} (h1 : mid * D ≤ v → ∀ t, t ≤ 0 → Ev (fun k => F k t) R) (h2 : ¬ mid * D ≤ v → ∀ t, ¬ t ≤ 0 → Ev (fun k => F k t) R) :
    Ev (fun k => (octroiref01_Of.f k mid).bind fun b => (octroiref01_Mul.f k b.1 b.2 dn dl).bind fun c => (octroiref01_Cmp.f k c.1 c.2 n l).bind fun t => F k t) R := by
  obtain ⟨n1, l1, e1, i1, b1⟩ := of_ev mid (by omega) (by omega)
  obtain ⟨n2, l2, e2, i2, b2⟩ := mulN_ev n1 dn l1 dl mid D i1 hd (by omega) (by omega)
  obtain ⟨t, e3, t1, t2⟩ := cmpN_ev n2 n l2 l (mid * D) v i2 hn (by omega) (by omega)
  refine Ev.bind (f := fun k b => (octroiref01_Mul.f k b.1 b.2 dn dl).bind fun c => (octroiref01_Cmp.f k c.1 c.2 n l).bind fun t => F k t) e1 ?_
  refine Ev.bind (f := fun k c => (octroiref01_Cmp.f k c.1 c.2 n l).bind fun t => F k t) e2 ?_
  refine Ev.bind (f := fun k t => F k t) e3 ?_
  by_cases h : mid * D ≤ v
  · exact h1 h t (t2.2 h)
  · exact h2 h t (fun ht => h (t2.1 ht))
theorem half_loop (m : Nat) : ∀ (low high : Int), 0 ≤ low → low ≤ high → high ≤ 4611686018427387905 → (high - low).toNat ≤ m → low * D ≤ v → v < (high + 1) * D →
    Ev (fun k => octroiref02_half.l0 k low high n l dn dl) (v / D) := by
  induction m with
  | zero =>
    intro low high h0 h1 h2 hm hl hh
    obtain rfl : low = high := by omega
    rw [quo_uniq hD hl hh]
    exact Ev.step (f := fun _ => some low) (fun k => by simp only [octroiref02_half.l0]; rw [if_neg (by omega)]) (Ev.now _)
  | succ m ih =>
    intro low high h0 h1 h2 hm hl hh
    by_cases hlt : low < high
    · obtain ⟨w1, w2, w3, w4⟩ := mid_facts h0 hlt (by omega)
      refine Ev.step (f := fun k => (octroiref01_Of.f k (high - (high - low) / 2)).bind fun b => (octroiref01_Mul.f k b.1 b.2 dn dl).bind fun c => (octroiref01_Cmp.f k c.1 c.2 n l).bind fun t =>
        if t ≤ 0 then octroiref02_half.l0 k (high - (high - low) / 2) high n l dn dl else octroiref02_half.l0 k low (high - (high - low) / 2 - 1) n l dn dl) (fun k => by simp only [octroiref02_half.l0]; rw [if_pos hlt, w1, w4]) ?_
      refine half_look n dn l dl v D hn hd ln ld hD _ (by omega) (by omega) (F := fun k t => if t ≤ 0 then octroiref02_half.l0 k (high - (high - low) / 2) high n l dn dl else octroiref02_half.l0 k low (high - (high - low) / 2 - 1) n l dn dl) ?_ ?_
      · intro hv t ht
        exact Ev.congr (fun k => if_pos ht) (ih _ _ (by omega) (by omega) (by omega) (by omega) hv hh)
      · intro hv t ht
        refine Ev.congr (fun k => if_neg ht) (ih _ _ (by omega) (by omega) (by omega) (by omega) hl ?_)
        rw [show high - (high - low) / 2 - 1 + 1 = high - (high - low) / 2 by omega]; omega
    · obtain rfl : low = high := by omega
      rw [quo_uniq hD hl hh]
      exact Ev.step (f := fun _ => some low) (fun k => by simp only [octroiref02_half.l0]; rw [if_neg (by omega)]) (Ev.now _)
end
theorem half_ev (n : Bool) (l : List Int) (v c : Int) (hn : IsNum n l v) (ln : l.length ≤ 1000000) (v0 : 0 ≤ v) (c1 : 1 ≤ c) (c2 : c ≤ 4611686018427387904) :
    Ev (fun k => octroiref02_half.f k n l c) (if 4611686018427387905 * (c * 2) ≤ v then -1 else v / (c * 2)) := by
  obtain ⟨n1, l1, e1, i1, b1⟩ := of_ev c (by omega) (by omega)
  obtain ⟨n2, l2, e2, i2, b2⟩ := of_ev 2 (by omega) (by omega)
  obtain ⟨n3, l3, e3, i3, b3⟩ := mulN_ev n1 n2 l1 l2 c 2 i1 i2 (by omega) (by omega)
  unfold octroiref02_half.f
  refine Ev.bind e1 ?_
  dsimp only
  refine Ev.bind e2 ?_
  dsimp only
  refine Ev.bind e3 ?_
  dsimp only
  refine half_look n n3 l l3 v (c * 2) hn i3 ln (by omega) (by omega) 4611686018427387905 (by decide) (by decide) (F := fun k t222 => if t222 ≤ 0 then (some (-1)) else (octroiref02_half.l0 k 0 4611686018427387905 n l n3 l3)) ?_ ?_
  · intro hv t ht
    rw [if_pos hv]
    exact Ev.congr (fun k => if_pos ht) (Ev.now _)
  · intro hv t ht
    rw [if_neg hv]
    have hD : 0 < c * 2 := by omega
    have hz : 0 * (c * 2) ≤ v := by rw [Int.zero_mul]; exact v0
    have hh : v < (4611686018427387905 + 1) * (c * 2) := by rw [Int.add_mul]; omega
    have l3' : l3.length ≤ 1000 := by omega
    have := half_loop n n3 l l3 v (c * 2) hn i3 ln l3' hD (4611686018427387905 - 0 : Int).toNat 0 4611686018427387905 (by decide) (by decide) (by decide) (Nat.le_refl _) hz hh
    exact Ev.congr (fun k => if_neg ht) this
end Go.Proofs.Ytdhmhdhfgojofaa.Print
