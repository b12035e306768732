/- For every whole number the whole units and what is left are the document's, and make it again, or both are refused alike; and the chapter's examples hold. No condition. -/
import Derived.Test.YtjjggflimpikgaaX0
import Derived.Test.YtjjggflimpikgaaMoney
import Derived.Test.YtjjggflimpikgaaRef01
import Derived.Test.YtjjggflimpikgaaX2
import Derived.Test.YtjjggflimpikgaaX4
import Derived.Test.YtjjggflimpikgaaX5
namespace Go.Proofs.Ytjjggflimpikgaa.Pure
open Go.RowKit Go.Proofs.Ytjjggflimpikgaa.Print Go.Proofs.YtjjggflimpikgaaW.PrintWords Go.Proofs.YtjjggflimpikgaaW.PrintLast
set_option linter.unusedVariables false
set_option linter.unusedSimpArgs false

theorem MoneyParts : octroilaw01_MoneyParts.Pure := by
  intro a ha
  have hb := wf_bd ha
  have hl : octroilaw01_lives.f = some true := by decide +kernel
  unfold octroilaw01_MoneyParts.f money_Part.f octroiref01_Part.f
  rw [hl, pro_may, ref_may]
  cases h : mayB a with
  | false => simp
  | true =>
    rw [mayB_iff] at h
    have hq : wrap64 (Int.tdiv a 100) = Int.tdiv a 100 := by
      refine w64 ?_ ?_
      · rw [← Int.neg_neg (Int.tdiv a 100), ← Int.neg_tdiv]
        by_cases h0 : 0 ≤ a
        · rw [Int.neg_tdiv, Int.neg_neg, Int.tdiv_eq_ediv_of_nonneg h0]; omega
        · rw [Int.tdiv_eq_ediv_of_nonneg (by omega)]; omega
      · by_cases h0 : 0 ≤ a
        · rw [Int.tdiv_eq_ediv_of_nonneg h0]; omega
        · rw [← Int.neg_neg (Int.tdiv a 100), ← Int.neg_tdiv, Int.tdiv_eq_ediv_of_nonneg (by omega)]; omega
    have he := Int.mul_tdiv_add_tmod a 100
    have hm : -100 < Int.tmod a 100 ∧ Int.tmod a 100 < 100 := by
      by_cases h0 : 0 ≤ a
      · rw [Int.tmod_eq_emod_of_nonneg h0]; omega
      · rw [← Int.neg_neg (Int.tmod a 100), ← Int.neg_tmod, Int.tmod_eq_emod_of_nonneg (by omega)]; omega
    simp only [Option.bind_some, if_true, hq]
    rw [w64 (x := 100 * Int.tdiv a 100) (by omega) (by omega), w64 (by omega) (by omega), if_pos he, if_pos hm.1, if_pos hm.2]

end Go.Proofs.Ytjjggflimpikgaa.Pure
