/- MarginOf. -/
import Derived.Test.YtdhmhdhfgojofaaX0
import Derived.Test.YtdhmhdhfgojofaaAx8
import Derived.Test.YtdhmhdhfgojofaaMarginA
import Derived.Test.YtdhmhdhfgojofaaRefPart
import Derived.Test.YtdhmhdhfgojofaaTaxA
import Derived.Test.YtdhmhdhfgojofaaTaxB
import Derived.Test.YtdhmhdhfgojofaaWideC
import Derived.Test.YtdhmhdhfgojofaaWideD
import Derived.Test.YtdhmhdhfgojofaaX2
import Derived.Test.YtdhmhdhfgojofaaX7
import Derived.Test.YtdhmhdhfgojofaaX8
import Derived.Test.YtdhmhdhfgojofaaX9
import Derived.Test.YtdhmhdhfgojofaaMarginA
import Derived.Test.YtdhmhdhfgojofaaRefPart
namespace Go.Proofs.Ytdhmhdhfgojofaa.Ax
open Go Go.RowKit
theorem insV_pos (a b : Int) (ha : 0 ≤ a ∧ a ≤ 4611686018427387904) (hb : 0 ≤ b ∧ b ≤ 10000) : ∃ t, insV a b = (a - t, t, 0) ∧ 0 ≤ t ∧ t ≤ a := by
  have hl := ins_le a b ha.1 hb
  have hn := half_nn (a * b) (10000 + b) (Int.mul_nonneg ha.1 hb.1) (by omega)
  refine ⟨halfV (a * b) (10000 + b), ?_, hn, hl⟩
  unfold insV insideV
  rw [(bpB_iff b).2 hb]
  simp only [cond_true]
  rw [mulDiv_pos a b (10000 + b) ha (by omega) (by omega) (by omega)]
  simp only [bne_self_eq_false, cond_false, wrapI]
  rw [wrap64_id (by omega) (by omega)]
theorem earn_bd {p c : Int} (h : dealB p c = true) : 0 ≤ earnV p c ∧ earnV p c ≤ 4611686018427387904 ∧ (p ≤ c → earnV p c = 0) := by
  rw [dealB_iff] at h
  unfold earnV
  split <;> omega
end Go.Proofs.Ytdhmhdhfgojofaa.Ax
namespace Go.Proofs.Ytdhmhdhfgojofaa.Pure
open Go.RowKit Go.Proofs.Ytdhmhdhfgojofaa.Print Go.Proofs.YtdhmhdhfgojofaaW.PrintWords Go.Proofs.YtdhmhdhfgojofaaW.PrintLast
set_option linter.unusedVariables false
set_option linter.unusedSimpArgs false
theorem margin_lives : octroilaw23_lives.f = some true := by kernel_rfl
theorem right_f (p c : Int) : octroiref23_Right.f p c = some (Ax.dealB p c) := by
  unfold octroiref23_Right.f Ax.dealB
  rw [ref_may', ref_may']
  by_cases h1 : p ≥ 0
  · rw [if_pos h1, decide_eq_true (show 0 ≤ p from h1)]
    cases Ax.mayB p with
    | false => rfl
    | true =>
      simp only [Option.bind_some, if_true, Bool.true_and]
      by_cases h2 : c ≥ 0
      · rw [if_pos h2, decide_eq_true (show 0 ≤ c from h2)]; rfl
      · rw [if_neg h2, decide_eq_false (show ¬ 0 ≤ c from h2)]; rfl
  · rw [if_neg h1, decide_eq_false (show ¬ 0 ≤ p from h1)]; rfl
theorem ref_of_ev (p c b : Int) : Ev (fun k => octroiref23_Of.f k p c b) (Ax.marginV p c b) := by
  unfold Ax.marginV
  cases hd : Ax.dealB p c with
  | false =>
    rw [if_neg (by simp)]
    refine evn (fun k => ?_)
    unfold octroiref23_Of.f
    rw [right_f, hd]; rfl
  | true =>
    by_cases h1 : b < 0
    · rw [if_neg (by rw [Ax.bpB_iff]; omega)]
      refine evn (fun k => ?_)
      unfold octroiref23_Of.f
      rw [right_f, hd]
      simp only [Option.bind_some, if_true, if_pos h1]
    · by_cases h2 : b > 10000
      · rw [if_neg (by rw [Ax.bpB_iff]; omega)]
        refine evn (fun k => ?_)
        unfold octroiref23_Of.f
        rw [right_f, hd]
        simp only [Option.bind_some, if_true, if_neg h1, if_pos h2]
      · rw [if_pos ⟨rfl, (Ax.bpB_iff b).2 (by omega)⟩]
        have he : mx (wrap64 (p - c)) 0 = Ax.earnV p c := by
          have := Ax.earn_eq hd
          rw [Ax.wrapI] at this
          exact this
        refine Ev.congr (fun k => ?_) (evb (ref_part_ev (Ax.earnV p c) true b) (β := Int × Int × Int) (f := fun bt _ => some (bt.1, bt.2.1, bt.2.2)) (evn (r := Ax.partV (Ax.earnV p c) true b) (fun k => rfl)))
        unfold octroiref23_Of.f
        rw [right_f, hd]
        simp only [Option.bind_some, if_true, if_neg h1, if_neg h2, he]
theorem MarginOf : octroilaw23_MarginOf.Pure := by
  intro p c b _ _ _
  obtain ⟨K, h⟩ := ref_of_ev p c b
  refine ⟨K, ?_⟩
  have h := h K (Nat.le_refl _)
  simp only at h
  have key : (Ax.marginV p c b).2.2 = 0 → (Ax.marginV p c b).1 ≥ 0 ∧ (Ax.marginV p c b).2.1 ≥ 0 ∧ (p > c ∨ (Ax.marginV p c b).1 = 0 ∧ (Ax.marginV p c b).2.1 = 0) := by
    unfold Ax.marginV
    by_cases hc : Ax.dealB p c = true ∧ Ax.bpB b = true
    · rw [if_pos hc]
      intro _
      obtain ⟨e1, e2, e3⟩ := Ax.earn_bd hc.1
      obtain ⟨t, ht, t1, t2⟩ := Ax.insV_pos (Ax.earnV p c) b ⟨e1, e2⟩ ((Ax.bpB_iff b).1 hc.2)
      rw [show Ax.partV (Ax.earnV p c) true b = Ax.insV (Ax.earnV p c) b from rfl, ht]
      refine ⟨by show Ax.earnV p c - t ≥ 0; omega, t1, ?_⟩
      by_cases hpc : p > c
      · exact .inl hpc
      · have := e3 (by omega)
        exact .inr ⟨by show Ax.earnV p c - t = 0; omega, by show t = 0; omega⟩
    · rw [if_neg hc]
      intro h; cases h
  simp only [octroilaw23_MarginOf.f, margin_Of.f, Option.bind_some, h, if_true, margin_lives]
  by_cases hz : (Ax.marginV p c b).2.2 = 0
  · obtain ⟨k1, k2, k3⟩ := key hz
    rw [if_pos hz, if_pos k1, if_pos k2]
    by_cases hpc : p > c
    · rw [if_pos hpc]
    · rw [if_neg hpc]
      rcases k3 with k3 | ⟨k3, k4⟩
      · exact absurd k3 hpc
      · rw [if_pos k3, if_pos k4]
  · rw [if_neg hz]
end Go.Proofs.Ytdhmhdhfgojofaa.Pure
