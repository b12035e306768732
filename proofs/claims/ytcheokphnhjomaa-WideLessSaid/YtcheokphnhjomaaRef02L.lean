/- The document's Less. -/
import Derived.Test.YtcheokphnhjomaaX0
import Derived.Test.YtcheokphnhjomaaRef01B
import Derived.Test.YtcheokphnhjomaaWideE
import Derived.Test.YtcheokphnhjomaaX14
import Derived.Test.YtcheokphnhjomaaX3
import Derived.Test.YtcheokphnhjomaaX4
import Derived.Test.YtcheokphnhjomaaX6
import Derived.Test.YtcheokphnhjomaaRef01B
import Derived.Test.YtcheokphnhjomaaWideE
namespace Go.Proofs.Ytcheokphnhjomaa.Print
open Go.RowKit Go.Proofs.YtcheokphnhjomaaW.PrintWords Go.Proofs.YtcheokphnhjomaaW.PrintLast Go.Proofs.YtcheokphnhjomaaW.PrintMore Go.Proofs.Ytcheokphnhjomaa.Ax
set_option linter.unusedVariables false
set_option linter.unusedSimpArgs false

theorem may_f3 (a : Int) : octroiref01_May.f a = some (mayB a) := by
  unfold octroiref01_May.f mayB
  by_cases h1 : a ≥ -4611686018427387904
  · rw [if_pos h1, decide_eq_true (show -4611686018427387904 ≤ a from h1)]; rfl
  · rw [if_neg h1, decide_eq_false (show ¬ -4611686018427387904 ≤ a from h1)]; rfl
theorem less_true (k : Nat) (a b c d : Int) : octroiref02_Less.j0 (k + 1) a b c d true = some (false, 2) := by simp only [octroiref02_Less.j0]; rw [if_pos trivial]
theorem less_j0 (a b c d : Int) (ha : mayB a = true) (hb : mayB b = true) (hc : mayB c = true) (hd : mayB d = true) : Ev (fun k => octroiref02_Less.j0 k a b c d false) (decide (a * b < c * d), 0) := by
  rw [mayB_iff] at ha hb hc hd
  obtain ⟨n1, l1, e1, i1, b1⟩ := of_ev a (by omega) (by omega)
  obtain ⟨n2, l2, e2, i2, b2⟩ := of_ev b (by omega) (by omega)
  obtain ⟨n3, l3, e3, i3, b3⟩ := mulN_ev n1 n2 l1 l2 a b i1 i2 (by omega) (by omega)
  obtain ⟨n4, l4, e4, i4, b4⟩ := of_ev c (by omega) (by omega)
  obtain ⟨n5, l5, e5, i5, b5⟩ := of_ev d (by omega) (by omega)
  obtain ⟨n6, l6, e6, i6, b6⟩ := mulN_ev n4 n5 l4 l5 c d i4 i5 (by omega) (by omega)
  obtain ⟨t, e7, t1, t2⟩ := cmpN_ev n3 n6 l3 l6 (a * b) (c * d) i3 i6 (by omega) (by omega)
  refine Ev.step (f := fun k => ((octroiref01_Of.f k a).bind fun bt311 => ((octroiref01_Of.f k b).bind fun bt315 => ((octroiref01_Mul.f k bt311.1 bt311.2 bt315.1 bt315.2).bind fun bt319 => ((octroiref01_Of.f k c).bind fun bt323 => ((octroiref01_Of.f k d).bind fun bt327 => ((octroiref01_Mul.f k bt323.1 bt323.2 bt327.1 bt327.2).bind fun bt331 => ((octroiref01_Cmp.f k bt319.1 bt319.2 bt331.1 bt331.2).bind fun t335 => (some (decide (t335 < 0), (0 : Int))))))))))) (fun k => by simp only [octroiref02_Less.j0]; rw [if_neg (by decide)]) ?_
  refine Ev.bind e1 ?_
  dsimp only
  refine Ev.bind e2 ?_
  dsimp only
  refine Ev.bind e3 ?_
  dsimp only
  refine Ev.bind e4 ?_
  dsimp only
  refine Ev.bind e5 ?_
  dsimp only
  refine Ev.bind e6 ?_
  dsimp only
  refine Ev.bind e7 ?_
  refine evn fun k => ?_
  have : decide (t < 0) = decide (a * b < c * d) := by rw [Bool.eq_iff_iff]; simp only [decide_eq_true_eq]; exact t1
  rw [this]
theorem refLess_ev (a b c d : Int) : ∃ k, octroiref02_Less.f k a b c d = some (lessV a b c d) := by
  unfold octroiref02_Less.f lessV
  simp only [may_f3, Option.bind_some]
  cases ha : mayB a with
  | false => exact ⟨1, less_true 0 a b c d⟩
  | true =>
    cases hb : mayB b with
    | false => exact ⟨1, less_true 0 a b c d⟩
    | true =>
      cases hc : mayB c with
      | false => exact ⟨1, less_true 0 a b c d⟩
      | true =>
        cases hd : mayB d with
        | false => exact ⟨1, less_true 0 a b c d⟩
        | true =>
          obtain ⟨K, hK⟩ := less_j0 a b c d ha hb hc hd
          exact ⟨K, hK K (Nat.le_refl _)⟩

end Go.Proofs.Ytcheokphnhjomaa.Print
