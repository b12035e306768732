/- For every list of at most 200 whole numbers, not empty, the sum is the same however the list is turned round, and one and the same amount added and taken off changes nothing; and the chapter's examples hold. No condition. -/
import Derived.Test.YtjjggflimpikgaaX0
import Derived.Test.YtjjggflimpikgaaMoney
import Derived.Test.YtjjggflimpikgaaRef01
import Derived.Test.YtjjggflimpikgaaX2
import Derived.Test.YtjjggflimpikgaaX5
namespace Go.Proofs.Ytjjggflimpikgaa.Pure
open Go.RowKit Go.Proofs.Ytjjggflimpikgaa.Print Go.Proofs.YtjjggflimpikgaaW.PrintWords Go.Proofs.YtjjggflimpikgaaW.PrintLast
set_option linter.unusedVariables false
set_option linter.unusedSimpArgs false

theorem MoneyOrder : octroilaw01_MoneyOrder.Pure := by
  intro l t a _ _ _ ht ha
  have hl : octroilaw01_lives.f = some true := by decide +kernel
  have hb := wf_bd ha
  refine ⟨3, ?_⟩
  unfold octroilaw01_MoneyOrder.f
  by_cases h : (l.length : Int) > 200
  · rw [if_pos h]; simp only [octroilaw01_MoneyOrder.j0]; rw [if_pos trivial, hl]; rfl
  · rw [if_neg h]
    by_cases h0 : (l.length : Int) = 0
    · rw [show ((l.length : Int) == 0) = true by simpa using h0]
      simp only [octroilaw01_MoneyOrder.j0]; rw [if_pos trivial, hl]; rfl
    · rw [show ((l.length : Int) == 0) = false by simpa using h0]
      have hu : IntKind.u64.wrap (l.length : Int) = (l.length : Int) := by rw [IntKind.wrap_u64]; omega
      have hq0 : 0 ≤ IntKind.u64.wrap t := by rw [IntKind.wrap_u64]; omega
      have hm : 0 ≤ Int.tmod (IntKind.u64.wrap t) (l.length : Int) ∧ Int.tmod (IntKind.u64.wrap t) (l.length : Int) < (l.length : Int) := by
        rw [Int.tmod_eq_emod_of_nonneg hq0]
        exact ⟨Int.emod_nonneg _ h0, Int.emod_lt_of_pos _ (by omega)⟩
      obtain ⟨k, hk⟩ : ∃ k : Nat, Int.tmod (IntKind.u64.wrap t) (l.length : Int) = (k : Int) := ⟨_, (Int.toNat_of_nonneg hm.1).symm⟩
      have hkl : k < l.length := by omega
      have hw : wrap64 (k : Int) = (k : Int) := w64 (by omega) (by omega)
      have hs : money_Sum.v (l.drop k ++ l.take k) = money_Sum.v l := by
        have e := List.take_append_drop k l
        unfold money_Sum.v
        have e1 : (l.drop k ++ l.take k).all mayB = l.all mayB := by
          rw [List.all_append, Bool.and_comm, ← List.all_append, e]
        have e2 : (l.drop k ++ l.take k).sum = l.sum := by
          rw [List.sum_append, Int.add_comm, ← List.sum_append, e]
        rw [e1, e2]
      simp only [octroilaw01_MoneyOrder.j0, Bool.false_eq_true, if_false, hu, if_neg h0, hk, hw, Int.toNat_natCast, money_Sum.f, Option.bind_some, List.nil_append, List.length_nil]
      rw [if_pos (by omega), if_pos (by omega), if_pos (by rw [List.length_drop]; omega), if_pos (by rw [List.length_drop, List.length_take]; omega), hs, if_pos rfl]
      simp only [bne_self_eq_false, octroilaw01_MoneyOrder.j1, Bool.false_eq_true, if_false, ref_may, Option.bind_some, hl]
      cases hma : mayB a with
      | false => simp
      | true =>
        have hma' := (mayB_iff a).1 hma
        have hs2 : money_Sum.v ([a] ++ l ++ [wrap64 (-a)]) = money_Sum.v l := by
          rw [w64 (by omega) (by omega)]
          unfold money_Sum.v
          have e1 : ([a] ++ l ++ [-a]).all mayB = l.all mayB := by simp [List.all_append, mayB_neg, hma]
          have e2 : ([a] ++ l ++ [-a]).sum = l.sum := by simp [List.sum_append]; omega
          rw [e1, e2]
        rw [if_pos rfl, if_pos (by simp; omega), if_pos (by simp; omega)]
        simp only [money_Sum.f]
        rw [hs2]
        simp

end Go.Proofs.Ytjjggflimpikgaa.Pure
