/- For every year, month and day the program's number of the day is the document's, or both are refused alike; so are leap years and the lengths of months; and the chapter's examples hold. No condition. -/
import Derived.Test.YtckgjpklhfolnaaX0
import Derived.Test.YtckgjpklhfolnaaCivilA
import Derived.Test.YtckgjpklhfolnaaRef04
import Derived.Test.YtckgjpklhfolnaaX5
namespace Go.Proofs.Ytckgjpklhfolnaa.Pure
open Go.RowKit Go.Proofs.Ytckgjpklhfolnaa.Print Go.Proofs.YtckgjpklhfolnaaW.PrintWords Go.Proofs.YtckgjpklhfolnaaW.PrintLast
set_option linter.unusedVariables false
set_option linter.unusedSimpArgs false

theorem CivilDays : octroilaw04_CivilDays.Pure := by
  intro y m d _ _ _
  obtain ⟨K1, h1⟩ := ref_day y m d
  obtain ⟨K2, h2⟩ := ref_len y m
  refine ⟨max K1 K2, ?_⟩
  have e1 := h1 (max K1 K2) (by omega)
  have e2 := h2 (max K1 K2) (by omega)
  simp only at e1 e2
  unfold octroilaw04_CivilDays.f
  rw [pro_day, e1, leap_eq, ref_leap, pro_len, e2, civ_lives]
  simp

end Go.Proofs.Ytckgjpklhfolnaa.Pure
