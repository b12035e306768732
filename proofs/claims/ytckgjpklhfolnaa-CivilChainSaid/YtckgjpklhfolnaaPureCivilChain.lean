/- Every period that is right is the one that has its first day, and its last day; behind its last day the next one begins, if there is one, and ahead of that one is it; a period that is not right is not so by the document either; and the chapter's examples hold. No condition. -/
import Derived.Test.YtckgjpklhfolnaaX0
import Derived.Test.YtckgjpklhfolnaaCivilA
import Derived.Test.YtckgjpklhfolnaaRef04
import Derived.Test.YtckgjpklhfolnaaRef04B
import Derived.Test.YtckgjpklhfolnaaRef04C
import Derived.Test.YtckgjpklhfolnaaRef04D
import Derived.Test.YtckgjpklhfolnaaX16
import Derived.Test.YtckgjpklhfolnaaSayCivilChain
namespace Go.Proofs.Ytckgjpklhfolnaa.Pure
open Go.RowKit Go.Proofs.Ytckgjpklhfolnaa.Print Go.Proofs.YtckgjpklhfolnaaW.PrintWords Go.Proofs.YtckgjpklhfolnaaW.PrintLast
set_option linter.unusedVariables false
set_option linter.unusedSimpArgs false

theorem tail_ok (kd y i a kd' y' i' : Int) (hg : goodB kd y i = true) (hg' : goodB kd' y' i' = true) (hn : nextV kd y i 1 = (kd', y', i', 0)) (hb : nextV kd' y' i' (-1) = (kd, y, i, 0)) (hc : (lastV kd y i).1 + 1 = (firstV kd' y' i').1) : octroilaw04_CivilChain.j0 1 (lastV kd y i).1 false kd y i = some true := by
  have he := first_err kd' y' i'
  rw [if_pos hg'] at he
  have hl := last_val hg
  have hbd : -9223372036854775808 ≤ (lastV kd y i).1 + 1 ∧ (lastV kd y i).1 + 1 ≤ 9223372036854775807 := by
    have gm := (goodB_iff kd y i).1 hg
    have b1 := beg_bd y gm.1.1 (by omega)
    have b2 := cum_bd (leapB y) (i * eachV kd).toNat
    rw [hl]; simp only []; omega
  simp only [octroilaw04_CivilChain.j0, Bool.false_eq_true, if_false]
  rw [pro_next kd y i 1 (by omega), hn]
  simp only [Option.bind_some, if_true]
  rw [pro_first, pro_next kd' y' i' (-1) (by omega), hb]
  simp only [Option.bind_some]
  rw [if_pos he, cw64 hbd.1 hbd.2, if_pos hc.symm, pro_cmp, cmp_less hg hg' hc, civ_lives]
  simp
theorem CivilChain : octroilaw04_CivilChain.Pure := by
  intro kd y i _ _ _
  refine ⟨1, ?_⟩
  unfold octroilaw04_CivilChain.f
  rw [pro_good, ref_good, civ_lives]
  cases hg : goodB kd y i with
  | false => simp
  | true =>
    have f2 : (firstV kd y i).2 = 0 := by rw [first_err, if_pos hg]
    have l2 : (lastV kd y i).2 = 0 := by rw [last_val hg]
    simp only [Option.bind_some, if_true]
    rw [pro_first, pro_last]
    simp only [Option.bind_some]
    rw [pro_of, pro_of, of_first hg, of_last hg]
    simp only [Option.bind_some, beq_self_eq_true, Bool.not_true, Bool.or_self, Bool.false_eq_true, if_false, if_true]
    have hle := first_le_last hg
    rw [if_pos f2, if_pos l2, decide_eq_false (by omega)]
    rcases next_one hg with ⟨h1, h2, h3⟩ | ⟨h1, h2, h3, h4⟩ | ⟨h1, h2, h3⟩
    · have hb := (back_one h3).1 (by have := (goodB_iff kd y i).1 hg; omega)
      rw [show i + 1 - 1 = i by omega] at hb
      exact tail_ok kd y i 0 kd y (i + 1) hg h3 h2 hb (chain_same hg h3)
    · have hy := (goodB_iff kd y i).1 hg
      have hb := (back_one h4).2 rfl (by omega)
      rw [show y + 1 - 1 = y by omega, ← h1] at hb
      exact tail_ok kd y i 0 kd (y + 1) 1 hg h4 h3 hb (chain_next hg h1 h4)
    · have hend : (lastV kd y i).1 = 2932896 := by
        subst h2
        rw [h1] at hg ⊢
        exact chain_end hg
      simp only [octroilaw04_CivilChain.j0, Bool.false_eq_true, if_false]
      rw [pro_next kd y i 1 (by omega), h3, civ_lives, hend]
      simp

end Go.Proofs.Ytckgjpklhfolnaa.Pure
