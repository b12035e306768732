/- For every period, number of periods and number of a day: whether the period is right, its first and last day, the period so many behind, and whether the day is in it, are the document's, or refused alike; and the chapter's examples hold. No condition. -/
import Derived.Test.YtckgjpklhfolnaaX0
import Derived.Test.YtckgjpklhfolnaaRef04
import Derived.Test.YtckgjpklhfolnaaRef04B
import Derived.Test.YtckgjpklhfolnaaX15
import Derived.Test.YtckgjpklhfolnaaSayCivilPeriods
namespace Go.Proofs.Ytckgjpklhfolnaa.Pure
open Go.RowKit Go.Proofs.Ytckgjpklhfolnaa.Print Go.Proofs.YtckgjpklhfolnaaW.PrintWords Go.Proofs.YtckgjpklhfolnaaW.PrintLast
set_option linter.unusedVariables false
set_option linter.unusedSimpArgs false

theorem CivilPeriods : octroilaw04_CivilPeriods.Pure := by
  intro kd y i b n _ _ _ hb _
  have hb := cwf hb
  obtain ⟨K1, h1⟩ := ref_first kd y i
  obtain ⟨K2, h2⟩ := ref_last kd y i
  obtain ⟨K3, h3⟩ := ref_within kd y i n
  refine ⟨max K1 (max K2 K3), ?_⟩
  have e1 := h1 (max K1 (max K2 K3)) (by omega)
  have e2 := h2 (max K1 (max K2 K3)) (by omega)
  have e3 := h3 (max K1 (max K2 K3)) (by omega)
  simp only at e1 e2 e3
  unfold octroilaw04_CivilPeriods.f
  rw [pro_first, e1, pro_last, e2, pro_next kd y i b hb, ref_next kd y i b hb, pro_good, ref_good, pro_within, e3, civ_lives]
  simp

end Go.Proofs.Ytckgjpklhfolnaa.Pure
