/- TaxWhole. -/
import Derived.Test.YtfmihohfkphamaaX0
import Derived.Test.YtfmihohfkphamaaPureLivesTax
import Derived.Test.YtfmihohfkphamaaTaxA
import Derived.Test.YtfmihohfkphamaaX3
import Derived.Test.YtfmihohfkphamaaPureLivesTax
namespace Go.Proofs.Ytfmihohfkphamaa.Pure
open Go.RowKit Go.Proofs.Ytfmihohfkphamaa.Print Go.Proofs.YtfmihohfkphamaaW.PrintWords Go.Proofs.YtfmihohfkphamaaW.PrintLast
set_option linter.unusedVariables false
set_option linter.unusedSimpArgs false

theorem whole_j1 (a : Int) (g : Bool) (b : Int) (ha : Ax.mayB a = true) : octroilaw21_TaxWhole.j1 2 a g (Ax.partV a g b).1 (Ax.partV a g b).2.1 (Ax.partV a g b).2.2 false = some true := by
  simp only [octroilaw21_TaxWhole.j1, Bool.false_eq_true, if_false, tax_lives, Option.bind_some]
  by_cases he : (Ax.partV a g b).2.2 = 0
  · rw [if_pos he]
    obtain ⟨h1, h2⟩ := Ax.partV_whole a g b ha he
    simp only [tax_Part.f, Ax.partV_none a g ha, Option.bind_some, if_true]
    cases g with
    | true => rw [if_pos rfl, if_pos (h1 rfl)]
    | false => rw [if_neg (by simp), if_pos (h2 rfl)]
  · rw [if_neg he]
theorem TaxWhole : octroilaw21_TaxWhole.Pure := by
  intro a g b _ _
  refine ⟨3, ?_⟩
  have hj : octroilaw21_TaxWhole.j0 3 a g b true = some true := by
    simp only [octroilaw21_TaxWhole.j0, if_true]
    rw [show octroilaw21_lives.f 2 = some true from tax_lives_ev 1]; rfl
  unfold octroilaw21_TaxWhole.f
  by_cases g1 : a < -4611686018427387904
  · rw [if_pos g1, hj]
  rw [if_neg g1]
  by_cases g2 : a > 4611686018427387904
  · rw [decide_eq_true g2, hj]
  rw [decide_eq_false g2]
  have ha : Ax.mayB a = true := (Ax.mayB_iff a).2 (by omega)
  have hw : wrap64 (-a) = -a := by unfold wrap64; omega
  obtain ⟨n1, n2, n3⟩ := Ax.partV_neg a g b ha
  have h1 := whole_j1 a g b ha
  simp only [octroilaw21_TaxWhole.j0, Bool.false_eq_true, if_false, tax_Part.f, Option.bind_some, hw]
  rw [if_pos n1.symm, if_pos n2]
  have n3' : ((Ax.partV (-a) g b).2.1 != wrap64 (-(Ax.partV a g b).2.1)) = false := by rw [n3]; exact bne_self_eq_false _
  rw [n3']
  exact h1

end Go.Proofs.Ytfmihohfkphamaa.Pure
