/- For every list of whole numbers of at most 300 places the program's two sums are the document's sum, or both are refused alike; and the chapter's examples hold. No condition. -/
import Derived.Test.YtjjggflimpikgaaX0
import Derived.Test.YtjjggflimpikgaaMoney
import Derived.Test.YtjjggflimpikgaaRef01
import Derived.Test.YtjjggflimpikgaaX2
import Derived.Test.YtjjggflimpikgaaX4
namespace Go.Proofs.Ytjjggflimpikgaa.Pure
open Go.RowKit Go.Proofs.Ytjjggflimpikgaa.Print Go.Proofs.YtjjggflimpikgaaW.PrintWords Go.Proofs.YtjjggflimpikgaaW.PrintLast
set_option linter.unusedVariables false
set_option linter.unusedSimpArgs false

theorem MoneyTotals : octroilaw01_MoneyTotals.Pure := by
  intro l _ _ _
  unfold octroilaw01_MoneyTotals.f
  have hl : octroilaw01_lives.f = some true := by decide +kernel
  rw [hl]
  by_cases h : (l.length : Int) > 300
  · exact ⟨0, by rw [if_pos h]; rfl⟩
  · obtain ⟨k, hk⟩ := (sum_ev l (by omega)).rounds
    refine ⟨k, ?_⟩
    rw [if_neg h, hk, pro_total]
    simp [money_Sum.f]

end Go.Proofs.Ytjjggflimpikgaa.Pure
