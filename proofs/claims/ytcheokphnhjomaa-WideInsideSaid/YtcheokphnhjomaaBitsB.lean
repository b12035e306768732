/- The plain law of a quotient of 128 bits by 64, digit by digit of 32 bits (no program in sight). -/
import Derived.Test.YtcheokphnhjomaaBitsA
namespace Go.Proofs.Ytcheokphnhjomaa.Ax
open Go Go.RowKit
set_option linter.unusedVariables false
set_option linter.unusedSimpArgs false

structure Dg (v1 v0 U n : Int) : Prop where
  v1l : 2147483648 ≤ v1
  v1u : v1 < 4294967296
  v0l : 0 ≤ v0
  v0u : v0 < 4294967296
  nl : 0 ≤ n
  nu : n < 4294967296
  ul : 0 ≤ U
  uy : U < v1 * 4294967296 + v0
def qtV (v1 v0 U n : Int) : Int := (U * 4294967296 + n) / (v1 * 4294967296 + v0)
structure Iv (v1 v0 U n q r : Int) : Prop where
  qge : qtV v1 v0 U n ≤ q
  qle : q ≤ 4294967297
  rq : r = U - q * v1
  rl : 0 ≤ r
  ru : r < 4294967296

theorem qt_le {v1 v0 U n q : Int} (d : Dg v1 v0 U n) : q ≤ qtV v1 v0 U n ↔ q * v1 * 4294967296 + q * v0 ≤ U * 4294967296 + n := by
  have hy : 0 < v1 * 4294967296 + v0 := by have := d.v1l; have := d.v0l; omega
  have e : q * (v1 * 4294967296 + v0) = q * v1 * 4294967296 + q * v0 := by rw [Int.mul_add, Int.mul_assoc]
  unfold qtV
  rw [Int.le_ediv_iff_mul_le hy, e]
theorem qt_lt {v1 v0 U n q : Int} (d : Dg v1 v0 U n) : qtV v1 v0 U n < q ↔ U * 4294967296 + n < q * v1 * 4294967296 + q * v0 := by
  have := qt_le (q := q) d
  omega
theorem qt_bd {v1 v0 U n : Int} (d : Dg v1 v0 U n) : 0 ≤ qtV v1 v0 U n ∧ qtV v1 v0 U n < 4294967296 := by
  obtain ⟨a, b, c, e, f, g, h, i⟩ := d
  have d : Dg v1 v0 U n := ⟨a, b, c, e, f, g, h, i⟩
  refine ⟨(qt_le d).2 (by rw [Int.zero_mul, Int.zero_mul]; omega), (qt_lt d).2 ?_⟩
  omega
theorem iv_start {v1 v0 U n : Int} (d : Dg v1 v0 U n) : Iv v1 v0 U n (U / v1) (U - U / v1 * v1) := by
  obtain ⟨a, b, c, e, f, g, h, i⟩ := d
  have d : Dg v1 v0 U n := ⟨a, b, c, e, f, g, h, i⟩
  have hv : 0 < v1 := by omega
  have h1 : U / v1 * v1 ≤ U := Int.ediv_mul_le _ (by omega)
  have h2 : U < (U / v1 + 1) * v1 := Int.lt_ediv_add_one_mul_self _ hv
  have h3 : (U / v1 + 1) * v1 = U / v1 * v1 + v1 := by rw [Int.add_mul, Int.one_mul]
  have hq : U / v1 < 4294967298 := Int.ediv_lt_of_lt_mul hv (by omega)
  have hq0 : 0 ≤ U / v1 := Int.ediv_nonneg h (by omega)
  refine ⟨?_, by omega, rfl, by omega, by omega⟩
  have : qtV v1 v0 U n < U / v1 + 1 := (qt_lt d).2 (by
    have h4 : 0 ≤ (U / v1 + 1) * v0 := Int.mul_nonneg (by omega) c
    rw [h3]
    omega)
  omega
theorem iv_more {v1 v0 U n q r : Int} (d : Dg v1 v0 U n) (v : Iv v1 v0 U n q r) (h : 4294967296 ≤ q ∨ 4294967296 * r + n < q * v0) : qtV v1 v0 U n < q := by
  rcases h with h | h
  · have := qt_bd d; omega
  · refine (qt_lt d).2 ?_
    have := v.rq
    omega
theorem iv_done {v1 v0 U n q r : Int} (d : Dg v1 v0 U n) (v : Iv v1 v0 U n q r) (h : ¬ 4294967296 * r + n < q * v0) : q = qtV v1 v0 U n := by
  have h1 := v.qge
  have h2 : q ≤ qtV v1 v0 U n := (qt_le d).2 (by have := v.rq; omega)
  omega
theorem iv_next {v1 v0 U n q r : Int} (d : Dg v1 v0 U n) (v : Iv v1 v0 U n q r) (h : qtV v1 v0 U n < q) (hr : r + v1 < 4294967296) : Iv v1 v0 U n (q - 1) (r + v1) := by
  obtain ⟨a, b, c, e, f⟩ := v
  have := d.v1l
  have h3 : (q - 1) * v1 = q * v1 - v1 := by rw [Int.sub_mul, Int.one_mul]
  exact ⟨by omega, by omega, by rw [h3]; omega, by omega, hr⟩
theorem iv_brk {v1 v0 U n q r : Int} (d : Dg v1 v0 U n) (v : Iv v1 v0 U n q r) (h : qtV v1 v0 U n < q) (hr : 4294967296 ≤ r + v1) : q - 1 = qtV v1 v0 U n := by
  obtain ⟨a, b, c, e, f⟩ := v
  have hb := qt_bd d
  have h3 : (q - 1) * v1 = q * v1 - v1 := by rw [Int.sub_mul, Int.one_mul]
  have h4 : (q - 1) * v0 ≤ 4294967296 * 4294967295 := Int.mul_le_mul (by omega) (by have := d.v0u; omega) d.v0l (by omega)
  have : q - 1 ≤ qtV v1 v0 U n := (qt_le d).2 (by
    rw [h3]
    have := d.nl
    omega)
  omega

/-- What is left behind a digit. -/
theorem left_eq {v1 v0 U n : Int} (d : Dg v1 v0 U n) : U * 4294967296 + n - qtV v1 v0 U n * (v1 * 4294967296 + v0) = (U * 4294967296 + n) % (v1 * 4294967296 + v0) := by
  have := Int.emod_def (U * 4294967296 + n) (v1 * 4294967296 + v0)
  unfold qtV
  rw [this, Int.mul_comm (v1 * 4294967296 + v0)]
theorem wrap_left (X Q y : Int) (h0 : 0 ≤ X - Q) (h1 : X - Q < y) (hy : y < 18446744073709551616) (x1 x2 : Int) (hX : X = x1 * 4294967296 + x2) :
    IntKind.u64.wrap (IntKind.u64.wrap (IntKind.u64.wrap (x1 * 4294967296) + x2) - IntKind.u64.wrap Q) = X - Q := by
  rw [wrapU64, wrapU64, wrapU64, wrapU64]
  omega

/-- Two digits make the quotient. -/
theorem two_digits (N y n0 : Int) (hy : 0 < y) : (N * 4294967296 + n0) / y = N / y * 4294967296 + (N % y * 4294967296 + n0) / y ∧ (N * 4294967296 + n0) % y = (N % y * 4294967296 + n0) % y := by
  have e : N * 4294967296 + n0 = (N % y * 4294967296 + n0) + N / y * 4294967296 * y := by
    have := Int.mul_ediv_add_emod N y
    have h2 : N / y * 4294967296 * y = y * (N / y) * 4294967296 := by rw [Int.mul_assoc, Int.mul_comm 4294967296 y, ← Int.mul_assoc, Int.mul_comm (N / y) y]
    rw [h2]
    omega
  constructor
  · rw [e, Int.add_mul_ediv_right _ _ (by omega)]
    omega
  · rw [e, Int.add_mul_emod_self_right]

/-- A quotient, both sides taken by the same power. -/
theorem shifted (a b c s64 : Int) (p : Int) (hp : 0 < p) (hc : 0 < c) : ((a * 18446744073709551616 + b) * p) / (c * p) = (a * 18446744073709551616 + b) / c ∧ ((a * 18446744073709551616 + b) * p) % (c * p) / p = (a * 18446744073709551616 + b) % c := by
  refine ⟨Int.mul_ediv_mul_of_pos_left _ _ hp, ?_⟩
  have : ((a * 18446744073709551616 + b) * p) % (c * p) = ((a * 18446744073709551616 + b) % c) * p := by
    rw [Int.mul_comm _ p, Int.mul_comm c p, Int.mul_emod_mul_of_pos _ _ hp, Int.mul_comm]
  rw [this, Int.mul_ediv_cancel _ (by omega)]

/-- How far a number is from the top. -/
theorem lz_spec (c : Int) (h0 : 1 ≤ c) (h1 : c < 18446744073709551616) : ∃ s : Nat, s ≤ 63 ∧ lzV c = s ∧ 9223372036854775808 ≤ c * 2 ^ s ∧ c * 2 ^ s < 18446744073709551616 := by
  have pick : ∀ (k : Nat) (x : Int), 1 ≤ x → x < 256 → k % 8 = 0 → k ≤ 56 → x * 2 ^ k ≤ c → c < (x + 1) * 2 ^ k → lenV c = k + len8 x → ∃ s : Nat, s ≤ 63 ∧ lzV c = s ∧ 9223372036854775808 ≤ c * 2 ^ s ∧ c * 2 ^ s < 18446744073709551616 := by
    intro k x hx1 hx2 hk hk2 hc1 hc2 hl
    have hl8 : (x < 2 ∧ len8 x = 1) ∨ (2 ≤ x ∧ x < 4 ∧ len8 x = 2) ∨ (4 ≤ x ∧ x < 8 ∧ len8 x = 3) ∨ (8 ≤ x ∧ x < 16 ∧ len8 x = 4) ∨ (16 ≤ x ∧ x < 32 ∧ len8 x = 5) ∨ (32 ≤ x ∧ x < 64 ∧ len8 x = 6) ∨ (64 ≤ x ∧ x < 128 ∧ len8 x = 7) ∨ (128 ≤ x ∧ len8 x = 8) := by
      unfold len8
      (repeat' split) <;> omega
    have hkk : k = 0 ∨ k = 8 ∨ k = 16 ∨ k = 24 ∨ k = 32 ∨ k = 40 ∨ k = 48 ∨ k = 56 := by omega
    have fin : ∀ n8 : Nat, 1 ≤ n8 → n8 ≤ 8 → len8 x = n8 → (9223372036854775808 ≤ c * 2 ^ (64 - k - n8) ∧ c * 2 ^ (64 - k - n8) < 18446744073709551616) → ∃ s : Nat, s ≤ 63 ∧ lzV c = s ∧ 9223372036854775808 ≤ c * 2 ^ s ∧ c * 2 ^ s < 18446744073709551616 := by
      intro n8 g1 g2 g3 g4
      exact ⟨64 - k - n8, by omega, by unfold lzV; rw [hl]; omega, g4⟩
    have hkk : k = 0 ∨ k = 8 ∨ k = 16 ∨ k = 24 ∨ k = 32 ∨ k = 40 ∨ k = 48 ∨ k = 56 := by omega
    rcases hl8 with ⟨h2, e⟩ | ⟨h1, h2, e⟩ | ⟨h1, h2, e⟩ | ⟨h1, h2, e⟩ | ⟨h1, h2, e⟩ | ⟨h1, h2, e⟩ | ⟨h1, h2, e⟩ | ⟨h1, e⟩
    · refine fin 1 (by decide) (by decide) e ?_
      clear fin e hl
      rcases hkk with rfl | rfl | rfl | rfl | rfl | rfl | rfl | rfl <;> (simp only [Nat.reduceSub, Int.reducePow] at hc1 hc2 ⊢; omega)
    · refine fin 2 (by decide) (by decide) e ?_
      clear fin e hl
      rcases hkk with rfl | rfl | rfl | rfl | rfl | rfl | rfl | rfl <;> (simp only [Nat.reduceSub, Int.reducePow] at hc1 hc2 ⊢; omega)
    · refine fin 3 (by decide) (by decide) e ?_
      clear fin e hl
      rcases hkk with rfl | rfl | rfl | rfl | rfl | rfl | rfl | rfl <;> (simp only [Nat.reduceSub, Int.reducePow] at hc1 hc2 ⊢; omega)
    · refine fin 4 (by decide) (by decide) e ?_
      clear fin e hl
      rcases hkk with rfl | rfl | rfl | rfl | rfl | rfl | rfl | rfl <;> (simp only [Nat.reduceSub, Int.reducePow] at hc1 hc2 ⊢; omega)
    · refine fin 5 (by decide) (by decide) e ?_
      clear fin e hl
      rcases hkk with rfl | rfl | rfl | rfl | rfl | rfl | rfl | rfl <;> (simp only [Nat.reduceSub, Int.reducePow] at hc1 hc2 ⊢; omega)
    · refine fin 6 (by decide) (by decide) e ?_
      clear fin e hl
      rcases hkk with rfl | rfl | rfl | rfl | rfl | rfl | rfl | rfl <;> (simp only [Nat.reduceSub, Int.reducePow] at hc1 hc2 ⊢; omega)
    · refine fin 7 (by decide) (by decide) e ?_
      clear fin e hl
      rcases hkk with rfl | rfl | rfl | rfl | rfl | rfl | rfl | rfl <;> (simp only [Nat.reduceSub, Int.reducePow] at hc1 hc2 ⊢; omega)
    · refine fin 8 (by decide) (by decide) e ?_
      clear fin e hl
      rcases hkk with rfl | rfl | rfl | rfl | rfl | rfl | rfl | rfl <;> (simp only [Nat.reduceSub, Int.reducePow] at hc1 hc2 ⊢; omega)
  unfold lenV at pick
  by_cases a1 : 4294967296 ≤ c
  · by_cases a2 : 65536 ≤ c / 4294967296
    · by_cases a3 : 256 ≤ c / 4294967296 / 65536
      · exact pick 56 (c / 4294967296 / 65536 / 256) (by omega) (by omega) (by decide) (by decide) (by omega) (by omega) (by rw [if_pos a1, if_pos a2, if_pos a3]; rfl)
      · exact pick 48 (c / 4294967296 / 65536) (by omega) (by omega) (by decide) (by decide) (by omega) (by omega) (by rw [if_pos a1, if_pos a2, if_neg a3]; rfl)
    · by_cases a3 : 256 ≤ c / 4294967296
      · exact pick 40 (c / 4294967296 / 256) (by omega) (by omega) (by decide) (by decide) (by omega) (by omega) (by rw [if_pos a1, if_neg a2, if_pos a3]; rfl)
      · exact pick 32 (c / 4294967296) (by omega) (by omega) (by decide) (by decide) (by omega) (by omega) (by rw [if_pos a1, if_neg a2, if_neg a3]; rfl)
  · by_cases a2 : 65536 ≤ c
    · by_cases a3 : 256 ≤ c / 65536
      · exact pick 24 (c / 65536 / 256) (by omega) (by omega) (by decide) (by decide) (by omega) (by omega) (by rw [if_neg a1, if_pos a2, if_pos a3]; rfl)
      · exact pick 16 (c / 65536) (by omega) (by omega) (by decide) (by decide) (by omega) (by omega) (by rw [if_neg a1, if_pos a2, if_neg a3]; rfl)
    · by_cases a3 : 256 ≤ c
      · exact pick 8 (c / 256) (by omega) (by omega) (by decide) (by decide) (by omega) (by omega) (by rw [if_neg a1, if_neg a2, if_pos a3]; rfl)
      · exact pick 0 c (by omega) (by omega) (by decide) (by decide) (by omega) (by omega) (by rw [if_neg a1, if_neg a2, if_neg a3]; rfl)

end Go.Proofs.Ytcheokphnhjomaa.Ax
