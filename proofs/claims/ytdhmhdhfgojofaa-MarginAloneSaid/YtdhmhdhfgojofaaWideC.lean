/- The contracts of wide.MulDiv and wide.Ceil: the document's answers. -/
import Derived.Test.YtdhmhdhfgojofaaWideB
namespace Go.Proofs.Ytdhmhdhfgojofaa.Ax
open Go Go.RowKit
set_option linter.unusedVariables false
set_option linter.unusedSimpArgs false

theorem mayB_iff (a : Int) : mayB a = true ↔ -4611686018427387904 ≤ a ∧ a ≤ 4611686018427387904 := by simp [mayB]
theorem rightV_iff (a b c : Int) : rightV a b c = true ↔ (-4611686018427387904 ≤ a ∧ a ≤ 4611686018427387904) ∧ (-4611686018427387904 ≤ b ∧ b ≤ 4611686018427387904) ∧ 1 ≤ c ∧ c ≤ 4611686018427387904 := by
  simp only [rightV, Bool.and_eq_true, mayB_iff, decide_eq_true_eq]
  omega
/-- A number without its sign. -/
def mag (a : Int) : Int := if a < 0 then -a else a
theorem mag_bd {a : Int} (h : -4611686018427387904 ≤ a ∧ a ≤ 4611686018427387904) : 0 ≤ mag a ∧ mag a ≤ 4611686018427387904 := by unfold mag; split <;> omega
theorem sizeV_eq {a : Int} (h : -4611686018427387904 ≤ a ∧ a ≤ 4611686018427387904) : sizeV a = mag a := by
  unfold sizeV mag
  by_cases h0 : a < 0
  · rw [decide_eq_true h0, if_pos h0]; simp only [cond_true]; rw [wrapU64, wrapU64]; omega
  · rw [decide_eq_false h0, if_neg h0]; simp only [cond_false]; rw [wrapU64]; omega
/-- Rounded half away from nought; and rounded up. -/
def halfV (p c : Int) : Int := (2 * p + c) / (2 * c)
def upV (p c : Int) : Int := (p + c - 1) / c
def overV (n : Int) (r : Int) : Int × Int := if n ≤ 4611686018427387904 then (r, 0) else (0, 3)
def mulDivV (a b c : Int) : Int × Int :=
  if rightV a b c = true then overV (halfV (mag a * mag b) c) (if decide (a < 0) = decide (b < 0) then halfV (mag a * mag b) c else -halfV (mag a * mag b) c) else (0, 2)
def ceilV (a b c : Int) : Int × Int :=
  if rightV a b c = true ∧ 0 ≤ a ∧ 0 ≤ b then overV (upV (a * b) c) (upV (a * b) c) else (0, 2)

theorem quo_facts (p c : Int) (hp : 0 ≤ p) (hc : 0 < c) : 0 ≤ p / c ∧ 0 ≤ p % c ∧ p % c < c ∧ p = c * (p / c) + p % c :=
  ⟨Int.ediv_nonneg hp (by omega), Int.emod_nonneg _ (by omega), Int.emod_lt_of_pos _ hc, (Int.mul_ediv_add_emod p c).symm⟩
theorem half_eq (p c : Int) (hp : 0 ≤ p) (hc : 0 < c) : halfV p c = p / c + (if c ≤ 2 * (p % c) then 1 else 0) := by
  obtain ⟨h1, h2, h3, h4⟩ := quo_facts p c hp hc
  unfold halfV
  have e : 2 * p + c = (2 * (p % c) + c) + (p / c) * (2 * c) := by
    have : (p / c) * (2 * c) = 2 * (c * (p / c)) := by rw [Int.mul_comm (p / c), Int.mul_assoc]
    omega
  rw [e, Int.add_mul_ediv_right _ _ (by omega)]
  split
  · have : (2 * (p % c) + c) / (2 * c) = 1 := by
      have g1 : (2 * (p % c) + c) / (2 * c) < 2 := Int.ediv_lt_of_lt_mul (by omega) (by omega)
      have g2 : 1 ≤ (2 * (p % c) + c) / (2 * c) := (Int.le_ediv_iff_mul_le (by omega)).2 (by omega)
      omega
    omega
  · have : (2 * (p % c) + c) / (2 * c) = 0 := Int.ediv_eq_zero_of_lt (by omega) (by omega)
    omega
theorem up_eq (p c : Int) (hp : 0 ≤ p) (hc : 0 < c) : upV p c = p / c + (if 0 < p % c then 1 else 0) := by
  obtain ⟨h1, h2, h3, h4⟩ := quo_facts p c hp hc
  unfold upV
  have e : p + c - 1 = (p % c + c - 1) + (p / c) * c := by
    have : (p / c) * c = c * (p / c) := Int.mul_comm _ _
    omega
  rw [e, Int.add_mul_ediv_right _ _ (by omega)]
  split
  · have : (p % c + c - 1) / c = 1 := by
      have g1 : (p % c + c - 1) / c < 2 := Int.ediv_lt_of_lt_mul (by omega) (by omega)
      have g2 : 1 ≤ (p % c + c - 1) / c := (Int.le_ediv_iff_mul_le (by omega)).2 (by omega)
      omega
    omega
  · have : (p % c + c - 1) / c = 0 := Int.ediv_eq_zero_of_lt (by omega) (by omega)
    omega

/-- Quotient and rest of a product, as the two halves tell them. -/
theorem by_eq (x y c : Int) (hx : 0 ≤ x ∧ x ≤ 4611686018427387904) (hy : 0 ≤ y ∧ y ≤ 4611686018427387904) (hc : 1 ≤ c ∧ c ≤ 4611686018427387904) :
    (u64B x && u64B y) = true ∧ (decide (0 ≤ mulHi x y) && (u64B (mulLo x y) && u64B c)) = true ∧
    ((byV (mulHi x y) (mulLo x y) c = (0, 0, false) ∧ 18446744073709551616 ≤ x * y / c) ∨ byV (mulHi x y) (mulLo x y) c = (x * y / c, x * y % c, true)) := by
  have hp : 0 ≤ x * y := Int.mul_nonneg hx.1 hy.1
  have hp2 : x * y ≤ 4611686018427387904 * 4611686018427387904 := Int.mul_le_mul hx.2 hy.2 hy.1 (by omega)
  have hm : mulHi x y * 18446744073709551616 + mulLo x y = x * y := by unfold mulHi mulLo; omega
  have hh : 0 ≤ mulHi x y := by unfold mulHi; omega
  have hl : 0 ≤ mulLo x y ∧ mulLo x y < 18446744073709551616 := by unfold mulLo; omega
  refine ⟨?_, ?_, ?_⟩
  · simp only [Bool.and_eq_true, u64B_iff]; omega
  · simp only [Bool.and_eq_true, u64B_iff, decide_eq_true_eq]; omega
  · unfold byV
    by_cases h : c ≤ mulHi x y
    · left
      rw [decide_eq_true h]
      refine ⟨rfl, (Int.le_ediv_iff_mul_le (by omega)).2 ?_⟩
      have : c * 18446744073709551616 ≤ mulHi x y * 18446744073709551616 := by omega
      omega
    · right
      rw [decide_eq_false h]
      simp only [cond_false, divQ, divR, hm]

theorem told_eq (q : Int) (up : Bool) (h0 : 0 ≤ q) (h1 : q < 18446744073709551616) : toldV q up = overV (q + (if up = true then 1 else 0)) (q + (if up = true then 1 else 0)) := by
  unfold toldV overV
  by_cases h2 : 4611686018427387904 < q
  · rw [decide_eq_true h2]; cases up <;> simp only [cond_true, if_true, Bool.false_eq_true, if_false] <;> rw [if_neg (by omega)]
  · rw [decide_eq_false h2]
    simp only [cond_false]
    cases up with
    | false =>
      simp only [cond_false, Bool.false_eq_true, if_false]
      rw [if_pos (by omega), IntKind.wrap_i64]
      congr 1
      omega
    | true =>
      simp only [cond_true, if_true]
      by_cases h3 : q = 4611686018427387904
      · subst h3; rfl
      · have : (q == 4611686018427387904) = false := by simpa using h3
        rw [this, if_pos (by omega), IntKind.wrap_i64, wrapU64]
        simp only [cond_false]
        congr 1
        omega

def mulDivT (a b c x y : Int) (t : Int × Int × Bool) (u : Int × Int) : Option SV :=
  sel (!rightV a b c) (some (.tup [.v (.int .i64 0), .v (.int .i64 2)]))
    (sel (u64B x && u64B y) (sel (decide (0 ≤ mulHi x y) && (u64B (mulLo x y) && u64B (IntKind.u64.wrap c)))
      (sel (!t.2.2) (some (.tup [.v (.int .i64 0), .v (.int .i64 3)]))
        (sel (u.2 != 0) (some (.tup [.v (.int .i64 0), .v (.int .i64 u.2)])) (some (.tup [.v (.int .i64 (signV a b u.1)), .v (.int .i64 0)])))) none) none)
theorem mulDiv_tree (a b c : Int) : evFn Try.prog CWide cn0 8 Try.f41 [.v (.int .i64 a), .v (.int .i64 b), .v (.int .i64 c)] [] 0 K1 =
    mulDivT a b c (sizeV a) (sizeV b) (byV (mulHi (sizeV a) (sizeV b)) (mulLo (sizeV a) (sizeV b)) (IntKind.u64.wrap c))
      (toldV (byV (mulHi (sizeV a) (sizeV b)) (mulLo (sizeV a) (sizeV b)) (IntKind.u64.wrap c)).1
        (decide (IntKind.u64.wrap (IntKind.u64.wrap c - (byV (mulHi (sizeV a) (sizeV b)) (mulLo (sizeV a) (sizeV b)) (IntKind.u64.wrap c)).2.1) ≤ (byV (mulHi (sizeV a) (sizeV b)) (mulLo (sizeV a) (sizeV b)) (IntKind.u64.wrap c)).2.1))) := by kernel_rfl
theorem mulDiv_ev (a b c : Int) : evFn Try.prog CWide cn0 8 Try.f41 [.v (.int .i64 a), .v (.int .i64 b), .v (.int .i64 c)] [] 0 K1 = some (.tup [.v (.int .i64 (mulDivV a b c).1), .v (.int .i64 (mulDivV a b c).2)]) := by
  rw [mulDiv_tree]
  unfold mulDivT mulDivV
  cases hr : rightV a b c with
  | false => rfl
  | true =>
    rw [rightV_iff] at hr
    obtain ⟨ha, hb, hc⟩ := hr
    have ma := mag_bd ha
    have mb := mag_bd hb
    rw [sizeV_eq ha, sizeV_eq hb, w64_in c (by omega) (by omega)]
    obtain ⟨e1, e2, e3⟩ := by_eq (mag a) (mag b) c ma mb hc
    obtain ⟨p, hp⟩ : ∃ p, p = mag a * mag b := ⟨_, rfl⟩
    have hp0 : 0 ≤ p := by rw [hp]; exact Int.mul_nonneg ma.1 mb.1
    obtain ⟨q1, q2, q3, q4⟩ := quo_facts p c hp0 (by omega)
    have hh := half_eq p c hp0 (by omega)
    rw [e1, e2, ← hp]
    rw [← hp] at e3
    simp only [Bool.not_true, sel_true, sel_false, if_true]
    rcases e3 with ⟨e3, e4⟩ | e3
    · rw [e3]
      have : ¬ halfV p c ≤ 4611686018427387904 := by rw [hh]; split <;> omega
      unfold overV
      rw [if_neg this]
      rfl
    · rw [e3]
      simp only [Bool.not_true, sel_false]
      by_cases hq : p / c < 18446744073709551616
      · rw [told_eq _ _ q1 hq, w64_in (c - p % c) (by omega) (by omega)]
        have ht : p / c + (if decide (c - p % c ≤ p % c) = true then 1 else 0) = halfV p c := by
          rw [hh]
          by_cases h : c ≤ 2 * (p % c)
          · rw [if_pos h, if_pos (by rw [decide_eq_true_eq]; omega)]
          · rw [if_neg h, if_neg (by rw [decide_eq_true_eq]; omega)]
        rw [ht]
        unfold overV
        by_cases ho : halfV p c ≤ 4611686018427387904
        · rw [if_pos ho, if_pos ho]
          have h0 : 0 ≤ halfV p c := by rw [hh]; split <;> omega
          have hsg : signV a b (halfV p c) = (if decide (a < 0) = decide (b < 0) then halfV p c else -halfV p c) := by
            unfold signV
            by_cases hs : decide (a < 0) = decide (b < 0)
            · rw [if_pos hs, beq_iff_eq.2 hs]; rfl
            · rw [if_neg hs, beq_eq_false_iff_ne.2 hs]
              simp only [cond_false]
              rw [IntKind.wrap_i64]
              omega
          rw [← hsg]
          rfl
        · rw [if_neg ho, if_neg ho]; rfl
      · -- the quotient has more than 64 bits: that is told before
        exfalso
        have hby : byV (mulHi (mag a) (mag b)) (mulLo (mag a) (mag b)) c = (p / c, p % c, true) := e3
        unfold byV at hby
        by_cases hcc : c ≤ mulHi (mag a) (mag b)
        · rw [decide_eq_true hcc] at hby
          simp at hby
        · have hm : mulHi (mag a) (mag b) * 18446744073709551616 + mulLo (mag a) (mag b) = p := by rw [hp]; unfold mulHi mulLo; omega
          have hl : mulLo (mag a) (mag b) < 18446744073709551616 := by unfold mulLo; omega
          have : p / c < 18446744073709551616 := Int.ediv_lt_of_lt_mul (by omega) (by
            have : (mulHi (mag a) (mag b) + 1) * 18446744073709551616 ≤ c * 18446744073709551616 := by omega
            omega)
          exact hq this
def cMulDiv : Con := fun args _ => match args with
  | [.v (.int .i64 a), .v (.int .i64 b), .v (.int .i64 c)] => .ret ⟨.tup [.v (.int .i64 (mulDivV a b c).1), .v (.int .i64 (mulDivV a b c).2)], []⟩
  | _ => .fail
theorem cMulDiv_ok : ∀ B, ConOk Try.prog B 41 cMulDiv := con_pure mixed Try.func41 (by kernel_rfl) rfl CWide_ok (fun B' w => cn0_ok B' w _) (by
  intro args lo h out ids hr
  unfold cMulDiv at hr
  split at hr
  · rename_i a b c
    cases hr
    exact ⟨rfl, rfl, mulDiv_ev a b c⟩
  · cases hr)


end Go.Proofs.Ytdhmhdhfgojofaa.Ax
namespace Go.Proofs.Ytdhmhdhfgojofaa.Print
open Go Go.RowKit Go.Proofs.Ytdhmhdhfgojofaa.Ax
def rho0 : Rho := fun _ => ⟨0, 0, 0, 0, false⟩
/-- As the printed texts want them. -/
def wide_MulDiv.f (a b c : Int) : Option (Int × Int) := some (mulDivV a b c)
theorem wide_MulDiv.calls (a b c r1 r2 : Int) (w : World) (h : wide_MulDiv.f a b c = some (r1, r2)) :
    Calls Try.prog 41 #[.int .i64 a, .int .i64 b, .int .i64 c] w fun e w' => e = .returned (.tuple #[.int .i64 r1, .int .i64 r2]) ∧ Below w.heap.size w w' := by
  have hv : mulDivV a b c = (r1, r2) := Option.some.inj h
  have := calls_of_con Try.func41 (by kernel_rfl) rfl cMulDiv_ok (args := [.v (.int .i64 a), .v (.int .i64 b), .v (.int .i64 c)]) (out := ⟨.tup [.v (.int .i64 (mulDivV a b c).1), .v (.int .i64 (mulDivV a b c).2)], []⟩) (ids := []) rfl rfl rfl rho0 w
  rw [hv] at this
  exact this
end Go.Proofs.Ytdhmhdhfgojofaa.Print
