/- For every number of a day and every kind the period that has the day is the document's, or both are refused alike, and it has the day; any two periods are held against each other as the document does, the other way round turned about nought; and the chapter's examples hold. No condition. -/
import Derived.Test.YtckgjpklhfolnaaX0
import Derived.Test.YtckgjpklhfolnaaRef04
import Derived.Test.YtckgjpklhfolnaaRef04B
import Derived.Test.YtckgjpklhfolnaaRef04C
import Derived.Test.YtckgjpklhfolnaaX18
import Derived.Test.YtckgjpklhfolnaaSayCivilOf
namespace Go.Proofs.Ytckgjpklhfolnaa.Pure
open Go.RowKit Go.Proofs.Ytckgjpklhfolnaa.Print Go.Proofs.YtckgjpklhfolnaaW.PrintWords Go.Proofs.YtckgjpklhfolnaaW.PrintLast
set_option linter.unusedVariables false
set_option linter.unusedSimpArgs false

theorem CivilOf : octroilaw04_CivilOf.Pure := by
  intro n kd a b c d e f _ _ _ _ _ _ _ _
  obtain ⟨K1, h1⟩ := ref_of n kd
  obtain ⟨K2, h2⟩ := ref_cmp a b c d e f
  refine ⟨max K1 K2, ?_⟩
  have e1 := h1 (max K1 K2) (by omega)
  have e2 := h2 (max K1 K2) (by omega)
  simp only at e1 e2
  have ht := cmpP_turn a b c d e f
  have hb := cmpP_bd d e f a b c
  have hw : wrap64 (-cmpP d e f a b c) = cmpP a b c d e f := by rw [cw64 (by omega) (by omega), ← ht]
  unfold octroilaw04_CivilOf.f
  rw [pro_of, e1]
  simp only [Option.bind_some, pro_within, pro_cmp, e2, hw, cmpP_same, civ_lives, if_true]
  by_cases h : (ofV n kd).2.2.2 = 0
  · rw [of_within n kd h]; simp [h]
  · simp [h]

end Go.Proofs.Ytckgjpklhfolnaa.Pure
