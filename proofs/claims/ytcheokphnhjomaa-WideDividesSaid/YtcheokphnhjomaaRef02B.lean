/- The document's greatest number that, times c, is not above a number; and the document's Ceil. -/
import Derived.Test.YtcheokphnhjomaaX0
import Derived.Test.YtcheokphnhjomaaAx4
import Derived.Test.YtcheokphnhjomaaAx8
import Derived.Test.YtcheokphnhjomaaRef01B
import Derived.Test.YtcheokphnhjomaaRef02A
import Derived.Test.YtcheokphnhjomaaX12
import Derived.Test.YtcheokphnhjomaaX4
import Derived.Test.YtcheokphnhjomaaX6
import Derived.Test.YtcheokphnhjomaaRef02A
import Derived.Test.YtcheokphnhjomaaWideD
namespace Go.Proofs.Ytcheokphnhjomaa.Print
open Go.RowKit Go.Proofs.YtcheokphnhjomaaW.PrintWords Go.Proofs.YtcheokphnhjomaaW.PrintLast Go.Proofs.YtcheokphnhjomaaW.PrintMore Go.Proofs.Ytcheokphnhjomaa.Ax
set_option linter.unusedVariables false
set_option linter.unusedSimpArgs false
set_option linter.unusedSectionVars false

/-- A number, times a number, held against a number. -/
theorem look2 {n : Bool} {l : List Int} {v c : Int} (hn : IsNum n l v) (ln : l.length ≤ 1000000) (c1 : 1 ≤ c) (c2 : c ≤ 4611686018427387904)
    (mid : Int) (m0 : 0 ≤ mid) (m1 : mid ≤ 9223372036854775807) {α : Type} {F : Nat → Int → Option α} {R : α} (h : ∀ t, (t < 0 ↔ mid * c < v) → (t ≤ 0 ↔ mid * c ≤ v) → Ev (fun k => F k t) R) :
    Ev (fun k => (octroiref01_Of.f k mid).bind fun b => (octroiref01_Of.f k c).bind fun b2 => (octroiref01_Mul.f k b.1 b.2 b2.1 b2.2).bind fun d => (octroiref01_Cmp.f k d.1 d.2 n l).bind fun t => F k t) R := by
  obtain ⟨n1, l1, e1, i1, b1⟩ := of_ev mid (by omega) (by omega)
  obtain ⟨n3, l3, e3, i3, b3⟩ := of_ev c (by omega) (by omega)
  obtain ⟨n2, l2, e2, i2, b2⟩ := mulN_ev n1 n3 l1 l3 mid c i1 i3 (by omega) (by omega)
  obtain ⟨t, e4, t1, t2⟩ := cmpN_ev n2 n l2 l (mid * c) v i2 hn (by omega) (by omega)
  refine Ev.bind e1 ?_
  dsimp only
  refine Ev.bind e3 ?_
  dsimp only
  refine Ev.bind e2 ?_
  dsimp only
  refine Ev.bind e4 ?_
  exact h t t1 t2
section
variable (n : Bool) (l : List Int) (v c : Int) (hn : IsNum n l v) (ln : l.length ≤ 1000000) (c1 : 1 ≤ c) (c2 : c ≤ 4611686018427387904)
include hn ln c1 c2
theorem great_loop (m : Nat) : ∀ (low high : Int), 0 ≤ low → low ≤ high → high ≤ 9223372036854775807 → (high - low).toNat ≤ m → low * c ≤ v → v < (high + 1) * c →
    Ev (fun k => octroiref02_great.l0 k c low high n l) (v / c) := by
  induction m with
  | zero =>
    intro low high h0 h1 h2 hm hl hh
    obtain rfl : low = high := by omega
    rw [quo_uniq (by omega) hl hh]
    exact Ev.step (f := fun _ => some low) (fun k => by simp only [octroiref02_great.l0]; rw [if_neg (by omega)]) (Ev.now _)
  | succ m ih =>
    intro low high h0 h1 h2 hm hl hh
    by_cases hlt : low < high
    · obtain ⟨w1, w2, w3, w4⟩ := mid_facts h0 hlt (by omega)
      refine Ev.step (f := fun k => (octroiref01_Of.f k (high - (high - low) / 2)).bind fun b => (octroiref01_Of.f k c).bind fun b2 => (octroiref01_Mul.f k b.1 b.2 b2.1 b2.2).bind fun d => (octroiref01_Cmp.f k d.1 d.2 n l).bind fun t =>
        if t ≤ 0 then octroiref02_great.l0 k c (high - (high - low) / 2) high n l else octroiref02_great.l0 k c low (high - (high - low) / 2 - 1) n l) (fun k => by simp only [octroiref02_great.l0]; rw [if_pos hlt, w1, w4]) ?_
      refine look2 hn ln c1 c2 _ (by omega) (by omega) (F := fun k t => if t ≤ 0 then octroiref02_great.l0 k c (high - (high - low) / 2) high n l else octroiref02_great.l0 k c low (high - (high - low) / 2 - 1) n l) ?_
      intro t _ ht
      by_cases hv : (high - (high - low) / 2) * c ≤ v
      · exact Ev.congr (fun k => if_pos (ht.2 hv)) (ih _ _ (by omega) (by omega) (by omega) (by omega) hv hh)
      · refine Ev.congr (fun k => if_neg (fun h => hv (ht.1 h))) (ih _ _ (by omega) (by omega) (by omega) (by omega) hl ?_)
        rw [show high - (high - low) / 2 - 1 + 1 = high - (high - low) / 2 by omega]; omega
    · obtain rfl : low = high := by omega
      rw [quo_uniq (by omega) hl hh]
      exact Ev.step (f := fun _ => some low) (fun k => by simp only [octroiref02_great.l0]; rw [if_neg (by omega)]) (Ev.now _)
theorem great_ev (v0 : 0 ≤ v) : Ev (fun k => octroiref02_great.f k n l c) (if 9223372036854775807 * c < v then -1 else v / c) := by
  unfold octroiref02_great.f
  refine look2 hn ln c1 c2 9223372036854775807 (by decide) (by decide) (F := fun k t => if t < 0 then (some (-1)) else (octroiref02_great.l0 k c 0 9223372036854775807 n l)) ?_
  intro t ht _
  by_cases hv : 9223372036854775807 * c < v
  · rw [if_pos hv]
    exact Ev.congr (fun k => if_pos (ht.2 hv)) (Ev.now _)
  · rw [if_neg hv]
    have hz : 0 * c ≤ v := by rw [Int.zero_mul]; exact v0
    have hh : v < (9223372036854775807 + 1) * c := by rw [Int.add_mul]; omega
    have := great_loop n l v c hn ln c1 c2 (9223372036854775807 - 0 : Int).toNat 0 9223372036854775807 (by decide) (by decide) (by decide) (Nat.le_refl _) hz hh
    exact Ev.congr (fun k => if_neg (fun h => hv (ht.1 h))) this
end

end Go.Proofs.Ytcheokphnhjomaa.Print
