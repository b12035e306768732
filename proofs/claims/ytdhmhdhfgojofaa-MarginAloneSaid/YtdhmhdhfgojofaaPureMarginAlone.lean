/- MarginAlone. -/
import Derived.Test.YtdhmhdhfgojofaaX0
import Derived.Test.YtdhmhdhfgojofaaAx8
import Derived.Test.YtdhmhdhfgojofaaMarginA
import Derived.Test.YtdhmhdhfgojofaaMarginB
import Derived.Test.YtdhmhdhfgojofaaMarginC
import Derived.Test.YtdhmhdhfgojofaaMarginD
import Derived.Test.YtdhmhdhfgojofaaTaxA
import Derived.Test.YtdhmhdhfgojofaaTaxB
import Derived.Test.YtdhmhdhfgojofaaWideC
import Derived.Test.YtdhmhdhfgojofaaWideD
import Derived.Test.YtdhmhdhfgojofaaX13
import Derived.Test.YtdhmhdhfgojofaaX8
import Derived.Test.YtdhmhdhfgojofaaSayMarginAlone
import Derived.Test.YtdhmhdhfgojofaaMarginD
namespace Go.Proofs.Ytdhmhdhfgojofaa.Ax
open Go Go.RowKit
set_option linter.unusedVariables false
set_option linter.unusedSimpArgs false
theorem insV_pos (a b : Int) (ha : 0 ≤ a ∧ a ≤ 4611686018427387904) (hb : 0 ≤ b ∧ b ≤ 10000) : ∃ t, insV a b = (a - t, t, 0) ∧ 0 ≤ t ∧ t ≤ a := by
  have hl := ins_le a b ha.1 hb
  have hn := half_nn (a * b) (10000 + b) (Int.mul_nonneg ha.1 hb.1) (by omega)
  refine ⟨halfV (a * b) (10000 + b), ?_, hn, hl⟩
  unfold insV insideV
  rw [(bpB_iff b).2 hb]
  simp only [cond_true]
  rw [mulDiv_pos a b (10000 + b) ha (by omega) (by omega) (by omega)]
  simp only [bne_self_eq_false, cond_false, wrapI]
  rw [wrap64_id (by omega) (by omega)]
/-- What deals are together, what is earned by each, if all are small. -/
def Small (d : I2) : Prop := (0 ≤ d.1 ∧ d.1 ≤ 1125899906842624) ∧ (0 ≤ d.2 ∧ d.2 ≤ 1125899906842624)
def sumD : List I2 → Int
  | [] => 0
  | d :: l => d.1 - d.2 + sumD l
def earnS : List I2 → Int
  | [] => 0
  | d :: l => earnV d.1 d.2 + earnS l
theorem earnS_app (l m : List I2) : earnS (l ++ m) = earnS l + earnS m := by
  induction l with
  | nil => simp [earnS]
  | cons d l ih => simp only [List.cons_append, earnS, ih]; omega
theorem small_facts (l : List I2) (h : ∀ d ∈ l, Small d) : (gath l).sum = sumD l ∧ (gath l).all Print.mayB = true ∧ l.all dB = true ∧ -(1125899906842624 * (l.length : Int)) ≤ sumD l ∧ sumD l ≤ earnS l ∧ 0 ≤ earnS l ∧ earnS l ≤ 1125899906842624 * (l.length : Int) := by
  induction l with
  | nil => refine ⟨rfl, rfl, rfl, ?_, ?_, ?_, ?_⟩ <;> simp [sumD, earnS]
  | cons d l ih =>
    obtain ⟨i1, i2, i3, i4, i5, i6, i7⟩ := ih (fun x hx => h x (by simp [hx]))
    have hd : Small d := h d (by simp)
    unfold Small at hd
    have hn : neg64 d.2 = -d.2 := by unfold neg64; rw [wrapI, wrap64_id (by omega) (by omega)]; omega
    have m1 : Print.mayB d.1 = true := (Print.mayB_iff _).2 (by omega)
    have m2 : Print.mayB (-d.2) = true := (Print.mayB_iff _).2 (by omega)
    have he : earnV d.1 d.2 = if d.2 < d.1 then d.1 - d.2 else 0 := rfl
    have hdb : dB d = true := by unfold dB; rw [dealB_iff]; omega
    refine ⟨?_, ?_, ?_, ?_, ?_, ?_, ?_⟩
    · simp only [gath, hn, List.sum_cons, i1, sumD]; omega
    · simp only [gath, hn, List.all_cons, m1, m2, i2, Bool.and_true]
    · simp only [List.all_cons, hdb, i3, Bool.and_true]
    · simp only [sumD, List.length_cons]; omega
    · simp only [sumD, earnS, he]; split <;> omega
    · simp only [earnS, he]; split <;> omega
    · simp only [earnS, he, List.length_cons]; split <;> omega
theorem marginV_small (d : I2) (bp : Int) (h : Small d) (hb : 0 ≤ bp ∧ bp ≤ 10000) : ∃ t, marginV d.1 d.2 bp = (earnV d.1 d.2 - t, t, 0) ∧ marginV d.1 d.2 bp = partV (earnV d.1 d.2) true bp ∧ 0 ≤ t ∧ t ≤ earnV d.1 d.2 := by
  unfold Small at h
  have hd : dealB d.1 d.2 = true := by rw [dealB_iff]; omega
  have he : 0 ≤ earnV d.1 d.2 ∧ earnV d.1 d.2 ≤ 1125899906842624 := by unfold earnV; split <;> omega
  obtain ⟨t, h1, h2, h3⟩ := insV_pos (earnV d.1 d.2) bp (by omega) hb
  have hv : marginV d.1 d.2 bp = partV (earnV d.1 d.2) true bp := by unfold marginV; rw [if_pos ⟨hd, (bpB_iff bp).2 hb⟩]
  exact ⟨t, by rw [hv]; exact h1, hv, h2, h3⟩
/-- A pool of small deals. -/
theorem pool_small (l : List I2) (bp : Int) (h : ∀ d ∈ l, Small d) (hl : l.length ≤ 100) (hb : 0 ≤ bp ∧ bp ≤ 10000) :
    (sumD l < 0 ∧ poolV l bp 0 = (0, 0, -sumD l, 0)) ∨ (0 ≤ sumD l ∧ poolV l bp 0 = ((partV (sumD l) true bp).1, (partV (sumD l) true bp).2.1, 0, (partV (sumD l) true bp).2.2)) := by
  obtain ⟨f1, f2, f3, f4, f5, f6, f7⟩ := small_facts l h
  have h0 : neg64 0 = 0 := by decide
  have hs : smV (neg64 0 :: gath l) = (sumD l, 0) := by
    rw [h0]
    show Print.sumV ((0 :: gath l).all Print.mayB) (0 :: gath l).sum = _
    rw [List.all_cons, f2, List.sum_cons, f1, Int.zero_add, show Print.mayB 0 = true from rfl]
    unfold Print.sumV
    rw [(Print.mayB_iff (sumD l)).2 (by omega)]
    rfl
  have hp : poolV l bp 0 = finV (neg64 0 :: gath l) bp := by
    unfold poolV
    rw [decide_eq_false (show ¬ 1048576 < (l.length : Int) by omega), f3, (bpB_iff bp).2 hb]
    rfl
  rw [hp]
  unfold finV
  rw [hs]
  by_cases hn : sumD l < 0
  · left
    refine ⟨hn, ?_⟩
    rw [decide_eq_true hn]
    simp only [bne_self_eq_false, cond_false, cond_true, wrapI]
    rw [wrap64_id (by omega) (by omega), Int.zero_sub]
  · right
    refine ⟨by omega, ?_⟩
    rw [decide_eq_false hn]
    rfl
end Go.Proofs.Ytdhmhdhfgojofaa.Ax
namespace Go.Proofs.Ytdhmhdhfgojofaa.Pure
open Go.RowKit Go.Proofs.Ytdhmhdhfgojofaa.Print Go.Proofs.YtdhmhdhfgojofaaW.PrintWords Go.Proofs.YtdhmhdhfgojofaaW.PrintLast
set_option linter.unusedVariables false
set_option linter.unusedSimpArgs false

theorem alone_lives : octroilaw23_lives.f = some true := by kernel_rfl
theorem wr64 {x : Int} (h : -9223372036854775808 ≤ x) (h2 : x < 9223372036854775808) : wrap64 x = x := by unfold wrap64; omega
theorem rd_small (l : List S38) (i : Nat) (h : i < l.length) : l.take (i + 1) = l.take i ++ [rd_T38 l i] := by
  unfold rd_T38
  rw [List.take_succ_eq_append_getElem h, Int.toNat_natCast, List.getD_eq_getElem?_getD, List.getElem?_eq_getElem h, Option.getD_some]
theorem alone_end (l : List S38) (bp : Int) (hl : l.length ≤ 100) (h0 : 0 < l.length) (hb : 0 ≤ bp ∧ bp ≤ 10000) (hs : ∀ d ∈ l.map dealI, Ax.Small d) (x5 : Int) (hx : x5 = Ax.earnS (l.map dealI)) :
    ((margin_Pool.f l bp 0).bind fun bt321 => (if 1 ≤ (l.length : Int) then ((margin_Pool.f (l.take 1) bp 0).bind fun bt329 => (if 0 < (l.length : Int) then ((margin_Of.f ((rd_T38 l 0).f0) ((rd_T38 l 0).f1) bp).bind fun bt335 => (if bt321.2.2.2 = 0 then (if (wrap64 (bt321.1 + bt321.2.1)) ≤ x5 then (if bt329.2.2.2 = 0 then (if bt335.2.2 = 0 then (if bt329.1 = bt335.1 then (if bt329.2.1 = bt335.2.1 then ((octroilaw23_lives.f).bind fun t338 => (some t338)) else (none)) else (none)) else (none)) else (none)) else (none)) else (none))) else (none))) else (none))) = some true := by
  obtain ⟨f1, f2, f3, f4, f5, f6, f7⟩ := Ax.small_facts _ hs
  have hlen : (l.map dealI).length = l.length := by simp
  rw [hlen] at f4 f7
  have h1 : l.take 1 = [rd_T38 l 0] := by
    have := rd_small l 0 h0
    simpa using this
  have hmem : rd_T38 l 0 ∈ l := by
    have : rd_T38 l 0 ∈ l.take 1 := by rw [h1]; simp
    exact List.mem_of_mem_take this
  have hd : Ax.Small (dealI (rd_T38 l 0)) := hs _ (List.mem_map.2 ⟨_, hmem, rfl⟩)
  obtain ⟨t, q1, q2, q3, q4⟩ := Ax.marginV_small _ bp hd hb
  have hq : Ax.marginV (rd_T38 l 0).f0 (rd_T38 l 0).f1 bp = (Ax.earnV (dealI (rd_T38 l 0)).1 (dealI (rd_T38 l 0)).2 - t, t, 0) := q1
  have p1 := Ax.pool_small (l.map dealI) bp hs (by rw [hlen]; exact hl) hb
  have p2 := Ax.pool_small [dealI (rd_T38 l 0)] bp (fun d hd' => by rw [List.mem_singleton.1 hd']; exact hd) (by simp) hb
  have hsum : Ax.sumD [dealI (rd_T38 l 0)] = (dealI (rd_T38 l 0)).1 - (dealI (rd_T38 l 0)).2 := by simp [Ax.sumD]
  have hmap1 : (l.take 1).map dealI = [dealI (rd_T38 l 0)] := by rw [h1]; rfl
  -- the pool of one
  have one : (Ax.poolV [dealI (rd_T38 l 0)] bp 0).1 = (Ax.marginV (rd_T38 l 0).f0 (rd_T38 l 0).f1 bp).1 ∧ (Ax.poolV [dealI (rd_T38 l 0)] bp 0).2.1 = (Ax.marginV (rd_T38 l 0).f0 (rd_T38 l 0).f1 bp).2.1 ∧ (Ax.poolV [dealI (rd_T38 l 0)] bp 0).2.2.2 = 0 := by
    rw [hsum] at p2
    rcases p2 with ⟨g1, g2⟩ | ⟨g1, g2⟩
    · have he : Ax.earnV (dealI (rd_T38 l 0)).1 (dealI (rd_T38 l 0)).2 = 0 := by unfold Ax.earnV; rw [if_neg (by omega)]
      rw [he] at hq q4
      rw [g2, hq]
      exact ⟨by show (0 : Int) = 0 - t; omega, by show (0 : Int) = t; omega, rfl⟩
    · have he : Ax.earnV (dealI (rd_T38 l 0)).1 (dealI (rd_T38 l 0)).2 = (dealI (rd_T38 l 0)).1 - (dealI (rd_T38 l 0)).2 := by unfold Ax.earnV; split <;> omega
      rw [g2, ← he, ← q2, q1]
      exact ⟨by rw [hq], by rw [hq], rfl⟩
  have all : (Ax.poolV (l.map dealI) bp 0).2.2.2 = 0 ∧ wrap64 ((Ax.poolV (l.map dealI) bp 0).1 + (Ax.poolV (l.map dealI) bp 0).2.1) ≤ x5 := by
    rcases p1 with ⟨g1, g2⟩ | ⟨g1, g2⟩
    · rw [g2]
      exact ⟨rfl, by rw [hx]; show wrap64 (0 + 0) ≤ _; rw [wr64 (by omega) (by omega)]; omega⟩
    · obtain ⟨u, u1, u2, u3⟩ := Ax.insV_pos (Ax.sumD (l.map dealI)) bp (by omega) hb
      have hp : Ax.partV (Ax.sumD (l.map dealI)) true bp = (Ax.sumD (l.map dealI) - u, u, 0) := u1
      rw [g2, hp]
      refine ⟨rfl, ?_⟩
      show wrap64 (Ax.sumD (l.map dealI) - u + u) ≤ x5
      rw [wr64 (by omega) (by omega)]; omega
  simp only [margin_Pool.f, margin_Of.f, hmap1, Option.bind_some]
  rw [if_pos (by omega), if_pos (by omega), if_pos all.1, if_pos all.2, if_pos one.2.2, if_pos (by rw [hq]), if_pos one.1, if_pos one.2.1, alone_lives]
  rfl
theorem alone_loop (l : List S38) (bp : Int) (hl : l.length ≤ 100) (h0 : 0 < l.length) (hb : 0 ≤ bp ∧ bp ≤ 10000) : ∀ (d i : Nat) (x5 : Int) (k : Nat), i + d = l.length → 2 * d + 1 ≤ k → (∀ x ∈ (l.take i).map dealI, Ax.Small x) → x5 = Ax.earnS ((l.take i).map dealI) →
    octroilaw23_MarginAlone.l0 k l bp x5 l (l.length : Int) (i : Int) = some true
  | 0, i, x5, k, hi, hk, hs, hx => by
    obtain ⟨k, rfl⟩ : ∃ q, k = q + 1 := ⟨k - 1, by omega⟩
    have ht : l.take i = l := List.take_of_length_le (by omega)
    rw [ht] at hs hx
    simp only [octroilaw23_MarginAlone.l0]
    rw [if_neg (by omega)]
    exact alone_end l bp hl h0 hb hs x5 hx
  | d + 1, i, x5, k, hi, hk, hs, hx => by
    obtain ⟨k, rfl⟩ : ∃ q, k = q + 1 + 1 := ⟨k - 2, by omega⟩
    have stop : octroilaw23_MarginAlone.j2 (k + 1) l bp x5 l (l.length : Int) (i : Int) true (rd_T38 l i).f0 (rd_T38 l i).f1 = some true := by
      simp only [octroilaw23_MarginAlone.j2, if_true, alone_lives, Option.bind_some]
    rw [octroilaw23_MarginAlone.l0]
    rw [if_pos (by omega), if_pos (by omega), if_pos (by omega), stop]
    by_cases g1 : (rd_T38 l i).f0 < 0
    · rw [if_pos g1]
    rw [if_neg g1]
    by_cases g2 : (rd_T38 l i).f1 < 0
    · rw [if_pos g2]
    rw [if_neg g2]
    by_cases g3 : (rd_T38 l i).f0 > 1125899906842624
    · rw [if_pos g3]
    rw [if_neg g3]
    by_cases g4 : (rd_T38 l i).f1 > 1125899906842624
    · rw [decide_eq_true g4, stop]
    rw [decide_eq_false g4]
    have hsm : Ax.Small (dealI (rd_T38 l i)) := by
      unfold Ax.Small dealI
      show (0 ≤ (rd_T38 l i).f0 ∧ _) ∧ (0 ≤ (rd_T38 l i).f1 ∧ _)
      omega
    obtain ⟨t, q1, q2, q3, q4⟩ := Ax.marginV_small _ bp hsm hb
    have hq : Ax.marginV (rd_T38 l i).f0 (rd_T38 l i).f1 bp = (Ax.earnV (dealI (rd_T38 l i)).1 (dealI (rd_T38 l i)).2 - t, t, 0) := q1
    have ht := rd_small l i (by omega)
    have hmapt : (l.take (i + 1)).map dealI = (l.take i).map dealI ++ [dealI (rd_T38 l i)] := by rw [ht, List.map_append]; rfl
    have hs' : ∀ x ∈ (l.take (i + 1)).map dealI, Ax.Small x := by
      intro x hx'
      rw [hmapt] at hx'
      rcases List.mem_append.1 hx' with h | h
      · exact hs x h
      · rw [List.mem_singleton.1 h]; exact hsm
    have hes : Ax.earnS ((l.take (i + 1)).map dealI) = x5 + Ax.earnV (dealI (rd_T38 l i)).1 (dealI (rd_T38 l i)).2 := by
      rw [hmapt, Ax.earnS_app, ← hx]; simp [Ax.earnS]
    obtain ⟨_, _, _, _, _, e6, e7⟩ := Ax.small_facts _ hs'
    obtain ⟨_, _, _, _, _, e8, e9⟩ := Ax.small_facts _ hs
    have hlt : ((l.take (i + 1)).map dealI).length ≤ 100 := by simp; omega
    have hlt2 : ((l.take i).map dealI).length ≤ 100 := by simp; omega
    rw [← hx] at e8 e9
    rw [hes] at e6 e7
    have hev : 0 ≤ Ax.earnV (dealI (rd_T38 l i)).1 (dealI (rd_T38 l i)).2 := by omega
    have ih := alone_loop l bp hl h0 hb d (i + 1) (x5 + Ax.earnV (dealI (rd_T38 l i)).1 (dealI (rd_T38 l i)).2) k (by omega) (by omega) hs' hes.symm
    rw [octroilaw23_MarginAlone.j2]
    simp only [Bool.false_eq_true, if_false, margin_Of.f, hq, Option.bind_some, if_true]
    have w1 : wrap64 (Ax.earnV (dealI (rd_T38 l i)).1 (dealI (rd_T38 l i)).2 - t + t) = Ax.earnV (dealI (rd_T38 l i)).1 (dealI (rd_T38 l i)).2 := by rw [wr64 (by omega) (by omega)]; omega
    rw [w1, wr64 (x := x5 + _) (by omega) (by omega), show wrap64 ((i : Int) + 1) = ((i + 1 : Nat) : Int) by rw [wr64 (by omega) (by omega)]; omega]
    exact ih
theorem MarginAlone : octroilaw23_MarginAlone.Pure := by
  intro l bp _ _ _ _
  refine ⟨1000, ?_⟩
  have hj : octroilaw23_MarginAlone.j0 1000 l bp true = some true := by
    simp only [octroilaw23_MarginAlone.j0, if_true, alone_lives, Option.bind_some]
  unfold octroilaw23_MarginAlone.f
  rw [hj]
  by_cases g1 : (l.length : Int) > 100
  · rw [if_pos g1]
  rw [if_neg g1]
  by_cases g2 : (l.length : Int) = 0
  · rw [if_pos g2]
  rw [if_neg g2]
  by_cases g3 : bp < 0
  · rw [if_pos g3]
  rw [if_neg g3]
  by_cases g4 : bp > 10000
  · rw [decide_eq_true g4, hj]
  rw [decide_eq_false g4]
  rw [octroilaw23_MarginAlone.j0]
  simp only [Bool.false_eq_true, if_false]
  exact alone_loop l bp (by omega) (by omega) ⟨by omega, by omega⟩ l.length 0 0 999 (by omega) (by omega) (fun x hx => by simp at hx) (by simp [Ax.earnS])
end Go.Proofs.Ytdhmhdhfgojofaa.Pure
