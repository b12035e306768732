/- For every whole number the program's date is the document's, or both are refused alike; a date's day is the number again; and the chapter's examples hold. No condition. -/
import Derived.Test.YtckgjpklhfolnaaX0
import Derived.Test.YtckgjpklhfolnaaCivilA
import Derived.Test.YtckgjpklhfolnaaRef04
import Derived.Test.YtckgjpklhfolnaaX7
namespace Go.Proofs.Ytckgjpklhfolnaa.Pure
open Go.RowKit Go.Proofs.Ytckgjpklhfolnaa.Print Go.Proofs.YtckgjpklhfolnaaW.PrintWords Go.Proofs.YtckgjpklhfolnaaW.PrintLast
set_option linter.unusedVariables false
set_option linter.unusedSimpArgs false

theorem CivilDates : octroilaw04_CivilDates.Pure := by
  intro n _
  obtain ⟨K1, h1⟩ := ref_date n
  refine ⟨K1 + 1, ?_⟩
  have e1 := h1 (K1 + 1) (by omega)
  simp only at e1
  unfold octroilaw04_CivilDates.f
  rw [pro_date, e1]
  simp only [Option.bind_some, if_true, bne_self_eq_false, octroilaw04_CivilDates.j0, Bool.false_eq_true, if_false, pro_day, civ_lives]
  by_cases h : 0 ≤ n ∧ n ≤ 2932896
  · rw [date_day n h.1 h.2]
    have hv : (dateV n).2.2.2 = 0 := by unfold dateV; rw [if_pos h]
    rw [hv]
    simp
  · have hv : (dateV n).2.2.2 = 30 := by unfold dateV; rw [if_neg h]
    rw [hv]
    simp

end Go.Proofs.Ytckgjpklhfolnaa.Pure
