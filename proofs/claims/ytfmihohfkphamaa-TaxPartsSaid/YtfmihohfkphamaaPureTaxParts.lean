/- TaxParts: the document's answer about a tax's parts is the program's. -/
import Derived.Test.YtfmihohfkphamaaX0
import Derived.Test.YtfmihohfkphamaaAx14
import Derived.Test.YtfmihohfkphamaaAx8
import Derived.Test.YtfmihohfkphamaaPureLivesTax
import Derived.Test.YtfmihohfkphamaaRefMD
import Derived.Test.YtfmihohfkphamaaTaxA
import Derived.Test.YtfmihohfkphamaaWideC
import Derived.Test.YtfmihohfkphamaaX1
import Derived.Test.YtfmihohfkphamaaX10
import Derived.Test.YtfmihohfkphamaaX11
import Derived.Test.YtfmihohfkphamaaX12
import Derived.Test.YtfmihohfkphamaaX13
import Derived.Test.YtfmihohfkphamaaX2
import Derived.Test.YtfmihohfkphamaaX3
import Derived.Test.YtfmihohfkphamaaX4
import Derived.Test.YtfmihohfkphamaaX8
import Derived.Test.YtfmihohfkphamaaTaxB
import Derived.Test.YtfmihohfkphamaaRef01C
import Derived.Test.YtfmihohfkphamaaPureLivesTax
namespace Go.Proofs.Ytfmihohfkphamaa.Print
open Go.RowKit Go.Proofs.YtfmihohfkphamaaW.PrintWords Go.Proofs.YtfmihohfkphamaaW.PrintLast
set_option linter.unusedVariables false
set_option linter.unusedSimpArgs false

theorem ref_tax (a b : Int) : octroiref02_Tax.f a b = some (Ax.taxV a b) := by
  unfold octroiref02_Tax.f octroiref02_MulDiv.f Ax.taxV Ax.bpB
  by_cases h1 : b < 0
  · rw [if_pos h1, decide_eq_false (show ¬ 0 ≤ b by omega)]; rfl
  · rw [if_neg h1, decide_eq_true (show 0 ≤ b by omega)]
    by_cases h2 : b > 10000
    · rw [if_pos h2, decide_eq_false (show ¬ b ≤ 10000 by omega)]; rfl
    · rw [if_neg h2, decide_eq_true (show b ≤ 10000 by omega)]; rfl
theorem ref_inside (a b : Int) : octroiref02_Inside.f a b = some (Ax.insideV a b) := by
  unfold octroiref02_Inside.f octroiref02_MulDiv.f Ax.insideV Ax.bpB
  by_cases h1 : b < 0
  · rw [if_pos h1, decide_eq_false (show ¬ 0 ≤ b by omega)]; rfl
  · rw [if_neg h1, decide_eq_true (show 0 ≤ b by omega)]
    by_cases h2 : b > 10000
    · rw [if_pos h2, decide_eq_false (show ¬ b ≤ 10000 by omega)]; rfl
    · have hw : wrap64 (10000 + b) = 10000 + b := by unfold wrap64; omega
      rw [if_neg h2, decide_eq_true (show b ≤ 10000 by omega), hw]; rfl
theorem part_arg (a : Int) (g : Bool) (b : Int) (h : Ax.mayB a = false ∨ Ax.bpB b = false) : Ax.partV a g b = (0, 0, 2) := by
  have ht : Ax.taxV a b = (0, 2) := by
    unfold Ax.taxV
    rcases h with h | h
    · cases Ax.bpB b with
      | false => rfl
      | true => exact Ax.mulDiv_no _ _ _ (by rw [h]; rfl)
    · rw [h]; rfl
  have hi : Ax.insideV a b = (0, 2) := by
    unfold Ax.insideV
    rcases h with h | h
    · cases Ax.bpB b with
      | false => rfl
      | true => exact Ax.mulDiv_no _ _ _ (by rw [h]; rfl)
    · rw [h]; rfl
  cases g with
  | true => show Ax.insV a b = _; unfold Ax.insV; rw [hi]; rfl
  | false => show Ax.uponV a b = _; unfold Ax.uponV; rw [ht]; rfl
theorem ref_part_j (a : Int) (g : Bool) (b : Int) (ha : Ax.mayB a = true) (hb : Ax.bpB b = true) : Ev (fun k => octroiref21_Part.j0 k a g b false) (Ax.partV a g b) := by
  cases g with
  | true =>
    refine Ev.step (f := fun _ => some (Ax.partV a true b)) (fun k => ?_) (Ev.now _)
    simp only [octroiref21_Part.j0, Bool.false_eq_true, if_false, if_true, ref_inside, Option.bind_some]
    show _ = some (Ax.insV a b)
    unfold Ax.insV
    rw [Ax.insideV_ok a b ha hb, Ax.wrapI]; rfl
  | false =>
    have hs := sum_ev [a, (Ax.taxV a b).1] (by simp)
    refine Ev.step (fun k => ?_) (evb hs (β := Int × Int × Int) (f := fun bt _ => if bt.2 = 0 then some (a, (Ax.taxV a b).1, 0) else some (0, 0, bt.2)) (r := Ax.partV a false b) (evn (fun k => ?_)))
    · simp only [octroiref21_Part.j0, Bool.false_eq_true, if_false, ref_tax, Option.bind_some]
    · show _ = some (Ax.uponV a b)
      unfold Ax.uponV
      rw [Ax.taxV_ok a b ha hb]
      show _ = some (bif (Ax.smV [a, (Ax.taxV a b).1]).2 != 0 then (0, 0, (Ax.smV [a, (Ax.taxV a b).1]).2) else (a, (Ax.taxV a b).1, 0))
      show (if (Ax.smV [a, (Ax.taxV a b).1]).2 = 0 then _ else _) = _
      by_cases hz : (Ax.smV [a, (Ax.taxV a b).1]).2 = 0
      · rw [if_pos hz, hz]; rfl
      · rw [if_neg hz, show ((Ax.smV [a, (Ax.taxV a b).1]).2 != 0) = true by simpa using hz]; rfl
theorem ref_may' (a : Int) : octroiref01_May.f a = some (Ax.mayB a) := ref_may a
theorem ref_part_ev (a : Int) (g : Bool) (b : Int) : Ev (fun k => octroiref21_Part.f k a g b) (Ax.partV a g b) := by
  have no : Ax.mayB a = false ∨ Ax.bpB b = false → Ev (fun k => octroiref21_Part.j0 k a g b true) (Ax.partV a g b) := fun h => by
    rw [part_arg a g b h]
    refine Ev.step (f := fun _ => some (0, 0, 2)) (fun k => ?_) (Ev.now _)
    simp only [octroiref21_Part.j0, if_true]
  cases ha : Ax.mayB a with
  | false =>
    refine Ev.congr (fun k => ?_) (no (.inl ha))
    simp only [octroiref21_Part.f, ref_may', ha, Option.bind_some, Bool.false_eq_true, if_false]
  | true =>
    by_cases h1 : b < 0
    · refine Ev.congr (fun k => ?_) (no (.inr (by unfold Ax.bpB; rw [decide_eq_false (show ¬ 0 ≤ b by omega)]; rfl)))
      simp only [octroiref21_Part.f, ref_may', ha, Option.bind_some, if_true, if_pos h1]
    · by_cases h2 : b > 10000
      · refine Ev.congr (fun k => ?_) (no (.inr (by unfold Ax.bpB; rw [decide_eq_false (show ¬ b ≤ 10000 by omega), Bool.and_false])))
        simp only [octroiref21_Part.f, ref_may', ha, Option.bind_some, if_true, if_neg h1, decide_eq_true h2]
      · refine Ev.congr (fun k => ?_) (ref_part_j a g b ha ((Ax.bpB_iff b).2 (by omega)))
        simp only [octroiref21_Part.f, ref_may', ha, Option.bind_some, if_true, if_neg h1, decide_eq_false h2]

/-! What is deducted. -/
theorem ref_percent (a b : Int) : octroiref02_Percent.f a b = wide_Percent.f a b := rfl
theorem percent_some (a b : Int) : ∃ r, wide_Percent.f a b = some r := by
  unfold wide_Percent.f wide_MulDiv.f
  split
  · exact ⟨_, rfl⟩
  · split <;> exact ⟨_, rfl⟩
theorem may_f' (a : Int) : money_May.f a = some (Ax.mayB a) := pro_may a
theorem deduct_ev (a p : Int) (m : Bool) : ∃ r, Ev (fun k => tax_Deduct.f k a p m) r ∧ Ev (fun k => octroiref21_Deduct.f k a p m) r := by
  obtain ⟨q, hq⟩ := percent_some a p
  have hq' : octroiref02_Percent.f a p = some q := hq
  have no1 : Ev (fun k => tax_Deduct.j0 k a p m true) (0, 2) := Ev.step (f := fun _ => some (0, 2)) (fun k => by simp only [tax_Deduct.j0, if_true]) (Ev.now _)
  have no2 : Ev (fun k => octroiref21_Deduct.j0 k a p m true) (0, 2) := Ev.step (f := fun _ => some (0, 2)) (fun k => by simp only [octroiref21_Deduct.j0, if_true]) (Ev.now _)
  cases ha : Ax.mayB a with
  | false =>
    refine ⟨(0, 2), evn (fun k => ?_), Ev.congr (fun k => ?_) no2⟩
    · simp only [tax_Deduct.f, may_f', ha, Option.bind_some, Bool.false_eq_true, if_false]
    · simp only [octroiref21_Deduct.f, ref_may', ha, Option.bind_some, Bool.false_eq_true, if_false]
  | true =>
    by_cases h1 : p < 0
    · refine ⟨(0, 2), Ev.congr (fun k => ?_) no1, Ev.congr (fun k => ?_) no2⟩
      · simp only [tax_Deduct.f, may_f', ha, Option.bind_some, if_true, if_pos h1]
      · simp only [octroiref21_Deduct.f, ref_may', ha, Option.bind_some, if_true, if_pos h1]
    · by_cases h2 : p > 100
      · refine ⟨(0, 2), Ev.congr (fun k => ?_) no1, Ev.congr (fun k => ?_) no2⟩
        · simp only [tax_Deduct.f, may_f', ha, Option.bind_some, if_true, if_neg h1, decide_eq_true h2]
        · simp only [octroiref21_Deduct.f, ref_may', ha, Option.bind_some, if_true, if_neg h1, decide_eq_true h2]
      · refine ⟨bif m then q else (a, 0), Ev.congr (fun k => ?_) (Ev.step (f := fun _ => some (bif m then q else (a, 0))) (g := fun k => tax_Deduct.j0 k a p m false) (fun k => ?_) (Ev.now _)), Ev.congr (fun k => ?_) (Ev.step (f := fun _ => some (bif m then q else (a, 0))) (g := fun k => octroiref21_Deduct.j0 k a p m false) (fun k => ?_) (Ev.now _))⟩
        · simp only [tax_Deduct.f, may_f', ha, Option.bind_some, if_true, if_neg h1, decide_eq_false h2]
        · cases m <;> simp [tax_Deduct.j0, hq]
        · simp only [octroiref21_Deduct.f, ref_may', ha, Option.bind_some, if_true, if_neg h1, decide_eq_false h2]
        · cases m <;> simp [octroiref21_Deduct.j0, hq']

end Go.Proofs.Ytfmihohfkphamaa.Print
namespace Go.Proofs.Ytfmihohfkphamaa.Pure
open Go.RowKit Go.Proofs.Ytfmihohfkphamaa.Print Go.Proofs.YtfmihohfkphamaaW.PrintWords Go.Proofs.YtfmihohfkphamaaW.PrintLast
set_option linter.unusedVariables false
set_option linter.unusedSimpArgs false

theorem lives_all : Ev (fun k => octroilaw21_lives.f k) true := ⟨1, fun k hk => by
  obtain ⟨n, rfl⟩ : ∃ n, k = n + 1 := ⟨k - 1, by omega⟩
  exact tax_lives_ev n⟩
theorem TaxParts : octroilaw21_TaxParts.Pure := by
  intro a g b p _ _ _
  obtain ⟨K1, h1⟩ := ref_part_ev a g b
  obtain ⟨r, hd1, hd2⟩ := deduct_ev a p g
  obtain ⟨K2, h2⟩ := hd1
  obtain ⟨K3, h3⟩ := hd2
  obtain ⟨K4, h4⟩ := lives_all
  refine ⟨K1 + K2 + K3 + K4, ?_⟩
  have e1 := h1 (K1 + K2 + K3 + K4) (by omega)
  have e2 := h2 (K1 + K2 + K3 + K4) (by omega)
  have e3 := h3 (K1 + K2 + K3 + K4) (by omega)
  have e4 := h4 (K1 + K2 + K3 + K4) (by omega)
  simp only at e1 e2 e3 e4
  simp only [octroilaw21_TaxParts.f, tax_Net.f, tax_Part.f, Option.bind_some, e1, e2, e3, e4, if_true]

end Go.Proofs.Ytfmihohfkphamaa.Pure
