/- For any two whole numbers their sum, their difference, and the first one turned about nought, are the document's, or refused alike; and the chapter's examples hold. No condition. -/
import Derived.Test.YtjjggflimpikgaaX0
import Derived.Test.YtjjggflimpikgaaMoney
import Derived.Test.YtjjggflimpikgaaRef01
import Derived.Test.YtjjggflimpikgaaX2
import Derived.Test.YtjjggflimpikgaaX6
namespace Go.Proofs.Ytjjggflimpikgaa.Pure
open Go.RowKit Go.Proofs.Ytjjggflimpikgaa.Print Go.Proofs.YtjjggflimpikgaaW.PrintWords Go.Proofs.YtjjggflimpikgaaW.PrintLast
set_option linter.unusedVariables false
set_option linter.unusedSimpArgs false

theorem MoneySums : octroilaw01_MoneySums.Pure := by
  intro a b ha hb
  have hl : octroilaw01_lives.f = some true := by decide +kernel
  obtain ⟨K1, h1⟩ := sum_ev [a, b] (by simp)
  obtain ⟨K2, h2⟩ := sub_ev a b
  obtain ⟨K3, h3⟩ := sub_ev 0 a
  refine ⟨max K1 (max K2 K3), ?_⟩
  have e1 := h1 (max K1 (max K2 K3)) (by omega)
  have e2 := h2 (max K1 (max K2 K3)) (by omega)
  have e3 := h3 (max K1 (max K2 K3)) (by omega)
  simp only at e1 e2 e3
  have hs : money_Sum.v [a, b] = sumV (mayB a && mayB b) (a + b) := by simp [money_Sum.v]
  have hn : subV 0 a = bif mayB a then (-a, 0) else (0, 2) := by
    have h0 : mayB 0 = true := by decide
    unfold subV sumV
    rw [h0, Bool.true_and, Int.zero_sub, mayB_neg]
    cases mayB a <;> rfl
  unfold octroilaw01_MoneySums.f
  rw [pro_add, pro_sub, pro_neg, e1, e2, e3, hs, hn, pro_may, ref_may, hl]
  simp

end Go.Proofs.Ytjjggflimpikgaa.Pure
