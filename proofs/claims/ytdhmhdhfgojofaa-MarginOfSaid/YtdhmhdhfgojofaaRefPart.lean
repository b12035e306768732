/- The document's answer about a tax's parts is the program's; no program in sight. -/
import Derived.Test.YtdhmhdhfgojofaaX0
import Derived.Test.YtdhmhdhfgojofaaAx8
import Derived.Test.YtdhmhdhfgojofaaRefMD
import Derived.Test.YtdhmhdhfgojofaaX2
import Derived.Test.YtdhmhdhfgojofaaX7
import Derived.Test.YtdhmhdhfgojofaaTaxB
import Derived.Test.YtdhmhdhfgojofaaRef01C
namespace Go.Proofs.Ytdhmhdhfgojofaa.Print
open Go.RowKit Go.Proofs.YtdhmhdhfgojofaaW.PrintWords Go.Proofs.YtdhmhdhfgojofaaW.PrintLast
set_option linter.unusedVariables false
set_option linter.unusedSimpArgs false
theorem ref_tax (a b : Int) : octroiref02_Tax.f a b = some (Ax.taxV a b) := by
  unfold octroiref02_Tax.f octroiref02_MulDiv.f Ax.taxV Ax.bpB
  by_cases h1 : b < 0
  · rw [if_pos h1, decide_eq_false (show ¬ 0 ≤ b by omega)]; rfl
  · rw [if_neg h1, decide_eq_true (show 0 ≤ b by omega)]
    by_cases h2 : b > 10000
    · rw [if_pos h2, decide_eq_false (show ¬ b ≤ 10000 by omega)]; rfl
    · rw [if_neg h2, decide_eq_true (show b ≤ 10000 by omega)]; rfl
theorem ref_inside (a b : Int) : octroiref02_Inside.f a b = some (Ax.insideV a b) := by
  unfold octroiref02_Inside.f octroiref02_MulDiv.f Ax.insideV Ax.bpB
  by_cases h1 : b < 0
  · rw [if_pos h1, decide_eq_false (show ¬ 0 ≤ b by omega)]; rfl
  · rw [if_neg h1, decide_eq_true (show 0 ≤ b by omega)]
    by_cases h2 : b > 10000
    · rw [if_pos h2, decide_eq_false (show ¬ b ≤ 10000 by omega)]; rfl
    · have hw : wrap64 (10000 + b) = 10000 + b := by unfold wrap64; omega
      rw [if_neg h2, decide_eq_true (show b ≤ 10000 by omega), hw]; rfl
theorem part_arg (a : Int) (g : Bool) (b : Int) (h : Ax.mayB a = false ∨ Ax.bpB b = false) : Ax.partV a g b = (0, 0, 2) := by
  have ht : Ax.taxV a b = (0, 2) := by
    unfold Ax.taxV
    rcases h with h | h
    · cases Ax.bpB b with
      | false => rfl
      | true => exact Ax.mulDiv_no _ _ _ (by rw [h]; rfl)
    · rw [h]; rfl
  have hi : Ax.insideV a b = (0, 2) := by
    unfold Ax.insideV
    rcases h with h | h
    · cases Ax.bpB b with
      | false => rfl
      | true => exact Ax.mulDiv_no _ _ _ (by rw [h]; rfl)
    · rw [h]; rfl
  cases g with
  | true => show Ax.insV a b = _; unfold Ax.insV; rw [hi]; rfl
  | false => show Ax.uponV a b = _; unfold Ax.uponV; rw [ht]; rfl
theorem ref_part_j (a : Int) (g : Bool) (b : Int) (ha : Ax.mayB a = true) (hb : Ax.bpB b = true) : Ev (fun k => octroiref21_Part.j0 k a g b false) (Ax.partV a g b) := by
  cases g with
  | true =>
    refine Ev.step (f := fun _ => some (Ax.partV a true b)) (fun k => ?_) (Ev.now _)
    simp only [octroiref21_Part.j0, Bool.false_eq_true, if_false, if_true, ref_inside, Option.bind_some]
    show _ = some (Ax.insV a b)
    unfold Ax.insV
    rw [Ax.insideV_ok a b ha hb, Ax.wrapI]; rfl
  | false =>
    have hs := sum_ev [a, (Ax.taxV a b).1] (by simp)
    refine Ev.step (fun k => ?_) (evb hs (β := Int × Int × Int) (f := fun bt _ => if bt.2 = 0 then some (a, (Ax.taxV a b).1, 0) else some (0, 0, bt.2)) (r := Ax.partV a false b) (evn (fun k => ?_)))
    · simp only [octroiref21_Part.j0, Bool.false_eq_true, if_false, ref_tax, Option.bind_some]
    · show _ = some (Ax.uponV a b)
      unfold Ax.uponV
      rw [Ax.taxV_ok a b ha hb]
      show _ = some (bif (Ax.smV [a, (Ax.taxV a b).1]).2 != 0 then (0, 0, (Ax.smV [a, (Ax.taxV a b).1]).2) else (a, (Ax.taxV a b).1, 0))
      show (if (Ax.smV [a, (Ax.taxV a b).1]).2 = 0 then _ else _) = _
      by_cases hz : (Ax.smV [a, (Ax.taxV a b).1]).2 = 0
      · rw [if_pos hz, hz]; rfl
      · rw [if_neg hz, show ((Ax.smV [a, (Ax.taxV a b).1]).2 != 0) = true by simpa using hz]; rfl
theorem ref_may' (a : Int) : octroiref01_May.f a = some (Ax.mayB a) := ref_may a
theorem ref_part_ev (a : Int) (g : Bool) (b : Int) : Ev (fun k => octroiref21_Part.f k a g b) (Ax.partV a g b) := by
  have no : Ax.mayB a = false ∨ Ax.bpB b = false → Ev (fun k => octroiref21_Part.j0 k a g b true) (Ax.partV a g b) := fun h => by
    rw [part_arg a g b h]
    refine Ev.step (f := fun _ => some (0, 0, 2)) (fun k => ?_) (Ev.now _)
    simp only [octroiref21_Part.j0, if_true]
  cases ha : Ax.mayB a with
  | false =>
    refine Ev.congr (fun k => ?_) (no (.inl ha))
    simp only [octroiref21_Part.f, ref_may', ha, Option.bind_some, Bool.false_eq_true, if_false]
  | true =>
    by_cases h1 : b < 0
    · refine Ev.congr (fun k => ?_) (no (.inr (by unfold Ax.bpB; rw [decide_eq_false (show ¬ 0 ≤ b by omega)]; rfl)))
      simp only [octroiref21_Part.f, ref_may', ha, Option.bind_some, if_true, if_pos h1]
    · by_cases h2 : b > 10000
      · refine Ev.congr (fun k => ?_) (no (.inr (by unfold Ax.bpB; rw [decide_eq_false (show ¬ b ≤ 10000 by omega), Bool.and_false])))
        simp only [octroiref21_Part.f, ref_may', ha, Option.bind_some, if_true, if_neg h1, decide_eq_true h2]
      · refine Ev.congr (fun k => ?_) (ref_part_j a g b ha ((Ax.bpB_iff b).2 (by omega)))
        simp only [octroiref21_Part.f, ref_may', ha, Option.bind_some, if_true, if_neg h1, decide_eq_false h2]
end Go.Proofs.Ytdhmhdhfgojofaa.Print
