/- The document's answers about nought, times one, near; plain laws, no program in sight. -/
import Derived.Test.YtogmjkmnknaieaaBitsD
namespace Go.Proofs.Ytogmjkmnknaieaa.Ax
open Go Go.RowKit
set_option linter.unusedVariables false
set_option linter.unusedSimpArgs false
def CMul : FuncId → Option Con
  | 49 => some cMul
  | _ => none
theorem CMul_ok : ∀ B' g φ, CMul g = some φ → ConOk Try.prog B' g φ := by
  intro B' g φ h
  unfold CMul at h
  split at h
  · cases h; exact cMul_ok B'
  · cases h
theorem times_tree (a b : Int) : evFn Try.prog CMul cn0 4 Try.f34 [.v (.int .u64 a), .v (.int .u64 b)] [] 0 K1 =
    sel (u64B a && u64B b) (some (.agg [.v (.int .u64 (mulHi a b)), .v (.int .u64 (mulLo a b))])) none := by kernel_rfl
def cTimes : Con := fun args _ => match args with
  | [.v (.int .u64 a), .v (.int .u64 b)] => .br (u64B a && u64B b) (.ret ⟨.agg [.v (.int .u64 (mulHi a b)), .v (.int .u64 (mulLo a b))], []⟩) .fail
  | _ => .fail
theorem cTimes_ok : ∀ B, ConOk Try.prog B 34 cTimes := con_pure mixed Try.func34 (by kernel_rfl) rfl CMul_ok (fun B' w => cn0_ok B' w _) (by
  intro args lo h out ids hr
  unfold cTimes at hr
  split at hr
  · rename_i a b
    obtain ⟨hb, hr⟩ := br_run hr
    cases hr
    refine ⟨rfl, rfl, ?_⟩
    rw [times_tree, hb]
    rfl
  · cases hr)
def CDiv : FuncId → Option Con
  | 50 => some cDiv
  | _ => none
theorem CDiv_ok : ∀ B' g φ, CDiv g = some φ → ConOk Try.prog B' g φ := by
  intro B' g φ h
  unfold CDiv at h
  split at h
  · cases h; exact cDiv_ok B'
  · cases h
theorem by_tree (a b c : Int) : evFn Try.prog CDiv cn0 4 Try.f36 [.agg [.v (.int .u64 a), .v (.int .u64 b)], .v (.int .u64 c)] [] 0 K1 =
    sel (decide (c ≤ a)) (some (.tup [.v (.int .u64 0), .v (.int .u64 0), .v (.bool false)]))
      (sel (divOk a b c) (some (.tup [.v (.int .u64 (divQ a b c)), .v (.int .u64 (divR a b c)), .v (.bool true)])) none) := by kernel_rfl
def byV (a b c : Int) : Int × Int × Bool := bif decide (c ≤ a) then (0, 0, false) else (divQ a b c, divR a b c, true)
def cBy : Con := fun args _ => match args with
  | [.agg [.v (.int .u64 a), .v (.int .u64 b)], .v (.int .u64 c)] => .br (decide (0 ≤ a) && (u64B b && u64B c)) (.ret ⟨.tup [.v (.int .u64 (byV a b c).1), .v (.int .u64 (byV a b c).2.1), .v (.bool (byV a b c).2.2)], []⟩) .fail
  | _ => .fail
theorem cBy_ok : ∀ B, ConOk Try.prog B 36 cBy := con_pure mixed Try.func36 (by kernel_rfl) rfl CDiv_ok (fun B' w => cn0_ok B' w _) (by
  intro args lo h out ids hr
  unfold cBy at hr
  split at hr
  · rename_i a b c
    obtain ⟨hb, hr⟩ := br_run hr
    cases hr
    refine ⟨rfl, rfl, ?_⟩
    rw [by_tree]
    simp only [Bool.and_eq_true, u64B_iff, decide_eq_true_eq] at hb
    unfold byV
    by_cases h : c ≤ a
    · rw [decide_eq_true h]; rfl
    · have : divOk a b c = true := by
        simp only [divOk, Bool.and_eq_true, u64B_iff, decide_eq_true_eq]
        omega
      rw [decide_eq_false h, this]; rfl
  · cases hr)
def signV (a b n : Int) : Int := bif (decide (a < 0) == decide (b < 0)) then n else IntKind.i64.wrap (0 - n)
def cSigned : Con := fun args _ => match args with
  | [.v (.int .i64 n), .ptr i 0, .ptr j 0] => .obj i fun o => match o with
    | .cells 3 [.v (.int .i64 a)] => .obj j fun o => match o with
      | .cells 3 [.v (.int .i64 b)] => .ret ⟨.v (.int .i64 (signV a b n)), []⟩
      | _ => .fail
    | _ => .fail
  | _ => .fail
theorem signed_tree (a b n : Int) : evFn Try.prog C0 cn0 4 Try.f33 [.v (.int .i64 n), .ptr 0 0, .ptr 1 0] [(0, .ro 3 [.v (.int .i64 a)]), (1, .ro 3 [.v (.int .i64 b)])] 2 K1 =
    sel (!(decide (a < 0) == decide (b < 0))) (some (.v (.int .i64 (IntKind.i64.wrap (0 - n))))) (some (.v (.int .i64 n))) := by kernel_rfl
theorem cSigned_ok : ∀ B, ConOk Try.prog B 33 cSigned := by
  intro B args ρ h w lo out ids hr hrh hfree hargs up
  unfold cSigned at hr
  split at hr
  · rename_i n i j
    obtain ⟨o, ids', hl, hr⟩ := obj_run hr
    split at hr
    · rename_i a
      obtain ⟨o', ids'', hl', hr⟩ := obj_run hr
      split at hr
      · rename_i b
        cases hr
        have ht : evFn Try.prog C0 cn0 4 Try.f33 [.v (.int .i64 n), .ptr 0 0, .ptr 1 0] [(0, .ro 3 [.v (.int .i64 a)]), (1, .ro 3 [.v (.int .i64 b)])] 2 K1 = some (.v (.int .i64 (signV a b n))) := by
          rw [signed_tree]
          unfold signV
          cases (decide (a < 0) == decide (b < 0)) <;> rfl
        have := con_reads (B := B) mixed Try.func33 (by kernel_rfl) rfl C0_ok (fun B' w => cn0_ok B' w _) [.v (.int .i64 n), .ptr 0 0, .ptr 1 0] (fun k => if k = 0 then i else j) _ 2 _ K1_spec ht ρ h w lo hrh up rfl
          (fun k oc hi => by
            simp only [look] at hi
            by_cases e : 0 = k
            · subst e; cases hi; exact ⟨by decide, rfl⟩
            · rw [beq_no e] at hi
              by_cases e' : 1 = k
              · subst e'; cases hi; exact ⟨by decide, rfl⟩
              · rw [beq_no e'] at hi; cases hi)
          (fun k oc hi => by
            simp only [look] at hi
            by_cases e : 0 = k
            · subst e; cases hi; exact ⟨_, hl, .inl rfl⟩
            · rw [beq_no e] at hi
              by_cases e' : 1 = k
              · subst e'; cases hi; exact ⟨_, hl', .inl rfl⟩
              · rw [beq_no e'] at hi; cases hi)
        exact this
      · cases hr
    · cases hr
  · cases hr
def CWide : FuncId → Option Con
  | 32 => some cRight
  | 35 => some cSize
  | 34 => some cTimes
  | 36 => some cBy
  | 37 => some cTold
  | 33 => some cSigned
  | 48 => some cMay
  | _ => none
theorem CWide_ok : ∀ B' g φ, CWide g = some φ → ConOk Try.prog B' g φ := by
  intro B' g φ h
  unfold CWide at h
  split at h
  · cases h; exact cRight_ok B'
  · cases h; exact cSize_ok B'
  · cases h; exact cTimes_ok B'
  · cases h; exact cBy_ok B'
  · cases h; exact cTold_ok B'
  · cases h; exact cSigned_ok B'
  · cases h; exact cMay_ok B'
  · cases h
end Go.Proofs.Ytogmjkmnknaieaa.Ax
namespace Go.Proofs.Ytogmjkmnknaieaa.Ax
open Go Go.RowKit
set_option linter.unusedVariables false
set_option linter.unusedSimpArgs false
theorem mayB_iff (a : Int) : mayB a = true ↔ -4611686018427387904 ≤ a ∧ a ≤ 4611686018427387904 := by simp [mayB]
theorem rightV_iff (a b c : Int) : rightV a b c = true ↔ (-4611686018427387904 ≤ a ∧ a ≤ 4611686018427387904) ∧ (-4611686018427387904 ≤ b ∧ b ≤ 4611686018427387904) ∧ 1 ≤ c ∧ c ≤ 4611686018427387904 := by
  simp only [rightV, Bool.and_eq_true, mayB_iff, decide_eq_true_eq]
  omega
def mag (a : Int) : Int := if a < 0 then -a else a
theorem mag_bd {a : Int} (h : -4611686018427387904 ≤ a ∧ a ≤ 4611686018427387904) : 0 ≤ mag a ∧ mag a ≤ 4611686018427387904 := by unfold mag; split <;> omega
theorem sizeV_eq {a : Int} (h : -4611686018427387904 ≤ a ∧ a ≤ 4611686018427387904) : sizeV a = mag a := by
  unfold sizeV mag
  by_cases h0 : a < 0
  · rw [decide_eq_true h0, if_pos h0]; simp only [cond_true]; rw [wrapU64, wrapU64]; omega
  · rw [decide_eq_false h0, if_neg h0]; simp only [cond_false]; rw [wrapU64]; omega
def halfV (p c : Int) : Int := (2 * p + c) / (2 * c)
def overV (n : Int) (r : Int) : Int × Int := if n ≤ 4611686018427387904 then (r, 0) else (0, 3)
def mulDivV (a b c : Int) : Int × Int :=
  if rightV a b c = true then overV (halfV (mag a * mag b) c) (if decide (a < 0) = decide (b < 0) then halfV (mag a * mag b) c else -halfV (mag a * mag b) c) else (0, 2)
theorem quo_facts (p c : Int) (hp : 0 ≤ p) (hc : 0 < c) : 0 ≤ p / c ∧ 0 ≤ p % c ∧ p % c < c ∧ p = c * (p / c) + p % c :=
  ⟨Int.ediv_nonneg hp (by omega), Int.emod_nonneg _ (by omega), Int.emod_lt_of_pos _ hc, (Int.mul_ediv_add_emod p c).symm⟩
theorem half_eq (p c : Int) (hp : 0 ≤ p) (hc : 0 < c) : halfV p c = p / c + (if c ≤ 2 * (p % c) then 1 else 0) := by
  obtain ⟨h1, h2, h3, h4⟩ := quo_facts p c hp hc
  unfold halfV
  have e : 2 * p + c = (2 * (p % c) + c) + (p / c) * (2 * c) := by
    have : (p / c) * (2 * c) = 2 * (c * (p / c)) := by rw [Int.mul_comm (p / c), Int.mul_assoc]
    omega
  rw [e, Int.add_mul_ediv_right _ _ (by omega)]
  split
  · have : (2 * (p % c) + c) / (2 * c) = 1 := by
      have g1 : (2 * (p % c) + c) / (2 * c) < 2 := Int.ediv_lt_of_lt_mul (by omega) (by omega)
      have g2 : 1 ≤ (2 * (p % c) + c) / (2 * c) := (Int.le_ediv_iff_mul_le (by omega)).2 (by omega)
      omega
    omega
  · have : (2 * (p % c) + c) / (2 * c) = 0 := Int.ediv_eq_zero_of_lt (by omega) (by omega)
    omega
theorem by_eq (x y c : Int) (hx : 0 ≤ x ∧ x ≤ 4611686018427387904) (hy : 0 ≤ y ∧ y ≤ 4611686018427387904) (hc : 1 ≤ c ∧ c ≤ 4611686018427387904) :
    (u64B x && u64B y) = true ∧ (decide (0 ≤ mulHi x y) && (u64B (mulLo x y) && u64B c)) = true ∧
    ((byV (mulHi x y) (mulLo x y) c = (0, 0, false) ∧ 18446744073709551616 ≤ x * y / c) ∨ byV (mulHi x y) (mulLo x y) c = (x * y / c, x * y % c, true)) := by
  have hp : 0 ≤ x * y := Int.mul_nonneg hx.1 hy.1
  have hp2 : x * y ≤ 4611686018427387904 * 4611686018427387904 := Int.mul_le_mul hx.2 hy.2 hy.1 (by omega)
  have hm : mulHi x y * 18446744073709551616 + mulLo x y = x * y := by unfold mulHi mulLo; omega
  have hh : 0 ≤ mulHi x y := by unfold mulHi; omega
  have hl : 0 ≤ mulLo x y ∧ mulLo x y < 18446744073709551616 := by unfold mulLo; omega
  refine ⟨?_, ?_, ?_⟩
  · simp only [Bool.and_eq_true, u64B_iff]; omega
  · simp only [Bool.and_eq_true, u64B_iff, decide_eq_true_eq]; omega
  · unfold byV
    by_cases h : c ≤ mulHi x y
    · left
      rw [decide_eq_true h]
      refine ⟨rfl, (Int.le_ediv_iff_mul_le (by omega)).2 ?_⟩
      have : c * 18446744073709551616 ≤ mulHi x y * 18446744073709551616 := by omega
      omega
    · right
      rw [decide_eq_false h]
      simp only [cond_false, divQ, divR, hm]
theorem told_eq (q : Int) (up : Bool) (h0 : 0 ≤ q) (h1 : q < 18446744073709551616) : toldV q up = overV (q + (if up = true then 1 else 0)) (q + (if up = true then 1 else 0)) := by
  unfold toldV overV
  by_cases h2 : 4611686018427387904 < q
  · rw [decide_eq_true h2]; cases up <;> simp only [cond_true, if_true, Bool.false_eq_true, if_false] <;> rw [if_neg (by omega)]
  · rw [decide_eq_false h2]
    simp only [cond_false]
    cases up with
    | false =>
      simp only [cond_false, Bool.false_eq_true, if_false]
      rw [if_pos (by omega), IntKind.wrap_i64]
      congr 1
      omega
    | true =>
      simp only [cond_true, if_true]
      by_cases h3 : q = 4611686018427387904
      · subst h3; rfl
      · have : (q == 4611686018427387904) = false := by simpa using h3
        rw [this, if_pos (by omega), IntKind.wrap_i64, wrapU64]
        simp only [cond_false]
        congr 1
        omega
def mulDivT (a b c x y : Int) (t : Int × Int × Bool) (u : Int × Int) : Option SV :=
  sel (!rightV a b c) (some (.tup [.v (.int .i64 0), .v (.int .i64 2)]))
    (sel (u64B x && u64B y) (sel (decide (0 ≤ mulHi x y) && (u64B (mulLo x y) && u64B (IntKind.u64.wrap c)))
      (sel (!t.2.2) (some (.tup [.v (.int .i64 0), .v (.int .i64 3)]))
        (sel (u.2 != 0) (some (.tup [.v (.int .i64 0), .v (.int .i64 u.2)])) (some (.tup [.v (.int .i64 (signV a b u.1)), .v (.int .i64 0)])))) none) none)
theorem mulDiv_tree (a b c : Int) : evFn Try.prog CWide cn0 8 Try.f22 [.v (.int .i64 a), .v (.int .i64 b), .v (.int .i64 c)] [] 0 K1 =
    mulDivT a b c (sizeV a) (sizeV b) (byV (mulHi (sizeV a) (sizeV b)) (mulLo (sizeV a) (sizeV b)) (IntKind.u64.wrap c))
      (toldV (byV (mulHi (sizeV a) (sizeV b)) (mulLo (sizeV a) (sizeV b)) (IntKind.u64.wrap c)).1
        (decide (IntKind.u64.wrap (IntKind.u64.wrap c - (byV (mulHi (sizeV a) (sizeV b)) (mulLo (sizeV a) (sizeV b)) (IntKind.u64.wrap c)).2.1) ≤ (byV (mulHi (sizeV a) (sizeV b)) (mulLo (sizeV a) (sizeV b)) (IntKind.u64.wrap c)).2.1))) := by kernel_rfl
theorem mulDiv_ev (a b c : Int) : evFn Try.prog CWide cn0 8 Try.f22 [.v (.int .i64 a), .v (.int .i64 b), .v (.int .i64 c)] [] 0 K1 = some (.tup [.v (.int .i64 (mulDivV a b c).1), .v (.int .i64 (mulDivV a b c).2)]) := by
  rw [mulDiv_tree]
  unfold mulDivT mulDivV
  cases hr : rightV a b c with
  | false => rfl
  | true =>
    rw [rightV_iff] at hr
    obtain ⟨ha, hb, hc⟩ := hr
    have ma := mag_bd ha
    have mb := mag_bd hb
    rw [sizeV_eq ha, sizeV_eq hb, w64_in c (by omega) (by omega)]
    obtain ⟨e1, e2, e3⟩ := by_eq (mag a) (mag b) c ma mb hc
    obtain ⟨p, hp⟩ : ∃ p, p = mag a * mag b := ⟨_, rfl⟩
    have hp0 : 0 ≤ p := by rw [hp]; exact Int.mul_nonneg ma.1 mb.1
    obtain ⟨q1, q2, q3, q4⟩ := quo_facts p c hp0 (by omega)
    have hh := half_eq p c hp0 (by omega)
    rw [e1, e2, ← hp]
    rw [← hp] at e3
    simp only [Bool.not_true, sel_true, sel_false, if_true]
    rcases e3 with ⟨e3, e4⟩ | e3
    · rw [e3]
      have : ¬ halfV p c ≤ 4611686018427387904 := by rw [hh]; split <;> omega
      unfold overV
      rw [if_neg this]
      rfl
    · rw [e3]
      simp only [Bool.not_true, sel_false]
      by_cases hq : p / c < 18446744073709551616
      · rw [told_eq _ _ q1 hq, w64_in (c - p % c) (by omega) (by omega)]
        have ht : p / c + (if decide (c - p % c ≤ p % c) = true then 1 else 0) = halfV p c := by
          rw [hh]
          by_cases h : c ≤ 2 * (p % c)
          · rw [if_pos h, if_pos (by rw [decide_eq_true_eq]; omega)]
          · rw [if_neg h, if_neg (by rw [decide_eq_true_eq]; omega)]
        rw [ht]
        unfold overV
        by_cases ho : halfV p c ≤ 4611686018427387904
        · rw [if_pos ho, if_pos ho]
          have h0 : 0 ≤ halfV p c := by rw [hh]; split <;> omega
          have hsg : signV a b (halfV p c) = (if decide (a < 0) = decide (b < 0) then halfV p c else -halfV p c) := by
            unfold signV
            by_cases hs : decide (a < 0) = decide (b < 0)
            · rw [if_pos hs, beq_iff_eq.2 hs]; rfl
            · rw [if_neg hs, beq_eq_false_iff_ne.2 hs]
              simp only [cond_false]
              rw [IntKind.wrap_i64]
              omega
          rw [← hsg]
          rfl
        · rw [if_neg ho, if_neg ho]; rfl
      · -- the quotient has more than 64 bits: that is told before
        exfalso
        have hby : byV (mulHi (mag a) (mag b)) (mulLo (mag a) (mag b)) c = (p / c, p % c, true) := e3
        unfold byV at hby
        by_cases hcc : c ≤ mulHi (mag a) (mag b)
        · rw [decide_eq_true hcc] at hby
          simp at hby
        · have hm : mulHi (mag a) (mag b) * 18446744073709551616 + mulLo (mag a) (mag b) = p := by rw [hp]; unfold mulHi mulLo; omega
          have hl : mulLo (mag a) (mag b) < 18446744073709551616 := by unfold mulLo; omega
          have : p / c < 18446744073709551616 := Int.ediv_lt_of_lt_mul (by omega) (by
            have : (mulHi (mag a) (mag b) + 1) * 18446744073709551616 ≤ c * 18446744073709551616 := by omega
            omega)
          exact hq this
def cMulDiv : Con := fun args _ => match args with
  | [.v (.int .i64 a), .v (.int .i64 b), .v (.int .i64 c)] => .ret ⟨.tup [.v (.int .i64 (mulDivV a b c).1), .v (.int .i64 (mulDivV a b c).2)], []⟩
  | _ => .fail
theorem cMulDiv_ok : ∀ B, ConOk Try.prog B 22 cMulDiv := con_pure mixed Try.func22 (by kernel_rfl) rfl CWide_ok (fun B' w => cn0_ok B' w _) (by
  intro args lo h out ids hr
  unfold cMulDiv at hr
  split at hr
  · rename_i a b c
    cases hr
    exact ⟨rfl, rfl, mulDiv_ev a b c⟩
  · cases hr)
end Go.Proofs.Ytogmjkmnknaieaa.Ax
namespace Go.Proofs.Ytogmjkmnknaieaa.Print
open Go Go.RowKit Go.Proofs.Ytogmjkmnknaieaa.Ax
def rho0 : Rho := fun _ => ⟨0, 0, 0, 0, false, none⟩
end Go.Proofs.Ytogmjkmnknaieaa.Print
namespace Go.Proofs.Ytogmjkmnknaieaa.Ax
open Go Go.RowKit
set_option linter.unusedVariables false
set_option linter.unusedSimpArgs false
theorem mag_nn (a : Int) : 0 ≤ mag a := by unfold mag; split <;> omega
theorem half_nn (p c : Int) (hp : 0 ≤ p) (hc : 0 < c) : 0 ≤ halfV p c := by
  unfold halfV; exact Int.ediv_nonneg (by omega) (by omega)
theorem half_spec (p c : Int) (hc : 0 < c) : 2 * c * halfV p c ≤ 2 * p + c ∧ 2 * p + c < 2 * c * halfV p c + 2 * c := by
  unfold halfV
  have h1 := Int.mul_ediv_add_emod (2 * p + c) (2 * c)
  have h2 := Int.emod_nonneg (2 * p + c) (b := 2 * c) (by omega)
  have h3 := Int.emod_lt_of_pos (2 * p + c) (b := 2 * c) (by omega)
  omega
theorem mag_mul (a b : Int) : mag a * mag b = (if a * b < 0 then -(a * b) else a * b) ∧ (a * b = 0 ∨ decide (a * b < 0) = (decide (a < 0) != decide (b < 0))) := by
  unfold mag
  by_cases ha : a < 0
  · by_cases hb : b < 0
    · have := Int.mul_pos_of_neg_of_neg ha hb
      rw [if_pos ha, if_pos hb, Int.neg_mul_neg, if_neg (by omega)]
      exact ⟨rfl, .inr (by rw [decide_eq_true ha, decide_eq_true hb, decide_eq_false (by omega)]; rfl)⟩
    · rw [if_pos ha, if_neg hb, Int.neg_mul]
      rcases (show b = 0 ∨ 0 < b by omega) with h0 | h0
      · subst h0; simp
      · have := Int.mul_neg_of_neg_of_pos ha h0
        rw [if_pos this]
        exact ⟨rfl, .inr (by rw [decide_eq_true ha, decide_eq_false hb, decide_eq_true this]; rfl)⟩
  · by_cases hb : b < 0
    · rw [if_neg ha, if_pos hb, Int.mul_neg]
      rcases (show a = 0 ∨ 0 < a by omega) with h0 | h0
      · subst h0; simp
      · have := Int.mul_neg_of_pos_of_neg h0 hb
        rw [if_pos this]
        exact ⟨rfl, .inr (by rw [decide_eq_false ha, decide_eq_true hb, decide_eq_true this]; rfl)⟩
    · have := Int.mul_nonneg (show 0 ≤ a by omega) (show 0 ≤ b by omega)
      rw [if_neg ha, if_neg hb, if_neg (by omega)]
      exact ⟨rfl, .inr (by rw [decide_eq_false ha, decide_eq_false hb, decide_eq_false (by omega)]; rfl)⟩
end Go.Proofs.Ytogmjkmnknaieaa.Ax
