/- The walks of math/bits.Mul64, Len64, LeadingZeros64 and Div64, by the abstract machine, and their plain laws. -/
import Derived.Test.YtcheokphnhjomaaWideA
import Derived.Lib.Mul64
import Derived.Laws.BitsLemmas
import Derived.IntWalk
namespace Go.Proofs.Ytcheokphnhjomaa.Ax
open Go Go.RowKit
set_option linter.unusedVariables false
set_option linter.unusedSimpArgs false

theorem wrapU64 (n : Int) : IntKind.u64.wrap n = n % 18446744073709551616 := by simp [IntKind.wrap, IntKind.bits, IntKind.signed]
theorem wraps_u64 (n : Int) (h₀ : 0 ≤ n) (h₁ : n < 2 ^ 64) : IntKind.u64.wrap n = n := by rw [wrapU64]; omega
theorem and32 (x : Int) (h0 : 0 ≤ x) (h1 : x < 18446744073709551616) : bits .and .u64 x 4294967295 = x % 4294967296 := bits_mask .u64 64 (by decide) wraps_u64 32 (by decide) x h0 h1
theorem sh32 (x : Int) : x.fdiv (2 ^ min 32 IntKind.u64.bits) = x / 4294967296 := by
  have : (2 : Int) ^ min 32 IntKind.u64.bits = 4294967296 := by decide
  rw [this]; exact Int.fdiv_eq_ediv_of_nonneg _ (by decide)
theorem sh16 (x : Int) : x.fdiv (2 ^ min 16 IntKind.u64.bits) = x / 65536 := by
  have : (2 : Int) ^ min 16 IntKind.u64.bits = 65536 := by decide
  rw [this]; exact Int.fdiv_eq_ediv_of_nonneg _ (by decide)
theorem sh8 (x : Int) : x.fdiv (2 ^ min 8 IntKind.u64.bits) = x / 256 := by
  have : (2 : Int) ^ min 8 IntKind.u64.bits = 256 := by decide
  rw [this]; exact Int.fdiv_eq_ediv_of_nonneg _ (by decide)

/-! Mul64 -/
def u64B (a : Int) : Bool := decide (0 ≤ a) && decide (a < 18446744073709551616)
theorem u64B_iff (a : Int) : u64B a = true ↔ 0 ≤ a ∧ a < 18446744073709551616 := by simp [u64B]
def mulHi (a b : Int) : Int := a * b / 18446744073709551616
def mulLo (a b : Int) : Int := a * b % 18446744073709551616
def mulT (a b : Int) : Int :=
  IntKind.u64.wrap
    (IntKind.u64.wrap
        (IntKind.u64.wrap (a.fdiv (2 ^ min 32 IntKind.u64.bits) * b.fdiv (2 ^ min 32 IntKind.u64.bits)) +
          (IntKind.u64.wrap
                (IntKind.u64.wrap (a.fdiv (2 ^ min 32 IntKind.u64.bits) * bits BinOp.and IntKind.u64 b 4294967295) +
                  (IntKind.u64.wrap (bits BinOp.and IntKind.u64 a 4294967295 * bits BinOp.and IntKind.u64 b 4294967295)).fdiv (2 ^ min 32 IntKind.u64.bits))).fdiv
            (2 ^ min 32 IntKind.u64.bits)) +
      (IntKind.u64.wrap
            (bits BinOp.and IntKind.u64
                (IntKind.u64.wrap
                  (IntKind.u64.wrap (a.fdiv (2 ^ min 32 IntKind.u64.bits) * bits BinOp.and IntKind.u64 b 4294967295) +
                    (IntKind.u64.wrap (bits BinOp.and IntKind.u64 a 4294967295 * bits BinOp.and IntKind.u64 b 4294967295)).fdiv (2 ^ min 32 IntKind.u64.bits)))
                4294967295 +
              IntKind.u64.wrap (bits BinOp.and IntKind.u64 a 4294967295 * b.fdiv (2 ^ min 32 IntKind.u64.bits)))).fdiv
        (2 ^ min 32 IntKind.u64.bits))
theorem mulT_eq (a b : Int) (ha : 0 ≤ a ∧ a < 18446744073709551616) (hb : 0 ≤ b ∧ b < 18446744073709551616) : mulT a b = mulHi a b := by
  obtain ⟨x, rfl⟩ := Int.eq_ofNat_of_zero_le ha.1
  obtain ⟨y, rfl⟩ := Int.eq_ofNat_of_zero_le hb.1
  have hx : x < 18446744073709551616 := by omega
  have hy : y < 18446744073709551616 := by omega
  obtain ⟨m1, m2, m3, m4⟩ := Lib.mul64_hi x y hx hy
  have h1 : (x / 4294967296) * (y % 4294967296) ≤ 18446744065119617025 := Lib.half_mul_le (by omega) (by omega)
  have h2 : (x % 4294967296) * (y / 4294967296) ≤ 18446744065119617025 := Lib.half_mul_le (by omega) (by omega)
  have h3 : (x / 4294967296) * (y / 4294967296) ≤ 18446744065119617025 := Lib.half_mul_le (by omega) (by omega)
  have c0 : ∀ z : Nat, z < 18446744073709551616 → IntKind.u64.wrap (z : Int) = z := fun z hz => by rw [wrapU64]; omega
  have e1 : bits .and .u64 (x : Int) 4294967295 = ((x % 4294967296 : Nat) : Int) := by rw [and32 _ (by omega) (by omega)]; omega
  have e2 : bits .and .u64 (y : Int) 4294967295 = ((y % 4294967296 : Nat) : Int) := by rw [and32 _ (by omega) (by omega)]; omega
  have e3 : ∀ z : Nat, (z : Int) / 4294967296 = ((z / 4294967296 : Nat) : Int) := fun z => by omega
  unfold mulT mulHi
  rw [e1, e2]
  simp only [sh32, e3, ← Int.natCast_mul]
  rw [c0 _ m1]
  simp only [e3, ← Int.natCast_add]
  rw [c0 ((x / 4294967296) * (y % 4294967296)) (by omega), c0 ((x % 4294967296) * (y / 4294967296)) (by omega), c0 ((x / 4294967296) * (y / 4294967296)) (by omega)]
  simp only [e3, ← Int.natCast_add]
  rw [c0 _ m2]
  have e4 : bits .and .u64 (((x / 4294967296) * (y % 4294967296) + (x % 4294967296) * (y % 4294967296) / 4294967296 : Nat) : Int) 4294967295 = ((((x / 4294967296) * (y % 4294967296) + (x % 4294967296) * (y % 4294967296) / 4294967296) % 4294967296 : Nat) : Int) := by
    rw [and32 _ (by omega) (by omega)]; omega
  rw [e4]
  simp only [e3, ← Int.natCast_add]
  rw [c0 _ m3]
  simp only [e3, ← Int.natCast_add]
  have hs : (x / 4294967296) * (y / 4294967296) + ((x / 4294967296) * (y % 4294967296) + (x % 4294967296) * (y % 4294967296) / 4294967296) / 4294967296 < 18446744073709551616 := by omega
  rw [c0 _ hs]
  simp only [← Int.natCast_add]
  rw [m4]
  have hp : x * y < 18446744073709551616 * 18446744073709551616 := Nat.mul_lt_mul'' hx hy
  rw [c0 _ (by omega)]
  omega
theorem mul_tree (a b : Int) : evFn Try.prog C0 cn0 4 Try.f39 [.v (.int .u64 a), .v (.int .u64 b)] [] 0 K1 =
    some (.tup [.v (.int .u64 (mulT a b)), .v (.int .u64 (IntKind.u64.wrap (a * b)))]) := by kernel_rfl
def cMul : Con := fun args _ => match args with
  | [.v (.int .u64 a), .v (.int .u64 b)] => .br (u64B a && u64B b) (.ret ⟨.tup [.v (.int .u64 (mulHi a b)), .v (.int .u64 (mulLo a b))], []⟩) .fail
  | _ => .fail
theorem cMul_ok : ∀ B, ConOk Try.prog B 39 cMul := con_pure mixed Try.func39 (by kernel_rfl) rfl C0_ok (fun B' w => cn0_ok B' w _) (by
  intro args lo h out ids hr
  unfold cMul at hr
  split at hr
  · rename_i a b
    obtain ⟨hb, hr⟩ := br_run hr
    cases hr
    refine ⟨rfl, rfl, ?_⟩
    simp only [Bool.and_eq_true, u64B_iff] at hb
    rw [mul_tree, mulT_eq a b hb.1 hb.2, wrapU64]
    rfl
  · cases hr)

/-! Len64, LeadingZeros64 -/
def lenTab : ByteArray := ⟨#[0, 1, 2, 2, 3, 3, 3, 3, 4, 4, 4, 4, 4, 4, 4, 4, 5, 5, 5, 5, 5, 5, 5, 5, 5, 5, 5, 5, 5, 5, 5, 5, 6, 6, 6, 6, 6, 6, 6, 6, 6, 6, 6, 6, 6, 6, 6, 6, 6, 6, 6, 6, 6, 6, 6, 6, 6, 6, 6, 6, 6, 6, 6, 6, 7, 7, 7, 7, 7, 7, 7, 7, 7, 7, 7, 7, 7, 7, 7, 7, 7, 7, 7, 7, 7, 7, 7, 7, 7, 7, 7, 7, 7, 7, 7, 7, 7, 7, 7, 7, 7, 7, 7, 7, 7, 7, 7, 7, 7, 7, 7, 7, 7, 7, 7, 7, 7, 7, 7, 7, 7, 7, 7, 7, 7, 7, 7, 7, 8, 8, 8, 8, 8, 8, 8, 8, 8, 8, 8, 8, 8, 8, 8, 8, 8, 8, 8, 8, 8, 8, 8, 8, 8, 8, 8, 8, 8, 8, 8, 8, 8, 8, 8, 8, 8, 8, 8, 8, 8, 8, 8, 8, 8, 8, 8, 8, 8, 8, 8, 8, 8, 8, 8, 8, 8, 8, 8, 8, 8, 8, 8, 8, 8, 8, 8, 8, 8, 8, 8, 8, 8, 8, 8, 8, 8, 8, 8, 8, 8, 8, 8, 8, 8, 8, 8, 8, 8, 8, 8, 8, 8, 8, 8, 8, 8, 8, 8, 8, 8, 8, 8, 8, 8, 8, 8, 8, 8, 8, 8, 8, 8, 8, 8, 8, 8, 8, 8, 8, 8, 8, 8, 8, 8, 8, 8, 8]⟩
def lenAt (n x : Int) : Option SV := sel (decide (0 ≤ IntKind.u8.wrap x)) (sel (decide (IntKind.u8.wrap x < 256)) (some (.v (.int .i64 (IntKind.i64.wrap (n + IntKind.i64.wrap (bt lenTab (IntKind.u8.wrap x))))))) none) none
def s32 (a : Int) : Int := a.fdiv (2 ^ min 32 IntKind.u64.bits)
def s16 (a : Int) : Int := a.fdiv (2 ^ min 16 IntKind.u64.bits)
def s8 (a : Int) : Int := a.fdiv (2 ^ min 8 IntKind.u64.bits)
theorem len_tree (a : Int) : evFn Try.prog C0 cn0 4 Try.f46 [.v (.int .u64 a)] [] 0 K1 =
    sel (decide (4294967296 ≤ a))
      (sel (decide (65536 ≤ s32 a))
        (sel (decide (256 ≤ s16 (s32 a))) (lenAt 56 (s8 (s16 (s32 a)))) (lenAt 48 (s16 (s32 a))))
        (sel (decide (256 ≤ s32 a)) (lenAt 40 (s8 (s32 a))) (lenAt 32 (s32 a))))
      (sel (decide (65536 ≤ a))
        (sel (decide (256 ≤ s16 a)) (lenAt 24 (s8 (s16 a))) (lenAt 16 (s16 a)))
        (sel (decide (256 ≤ a)) (lenAt 8 (s8 a)) (lenAt 0 a))) := by kernel_rfl
/-- How many bits a byte has. -/
def len8 (x : Int) : Int := if x < 1 then 0 else if x < 2 then 1 else if x < 4 then 2 else if x < 8 then 3 else if x < 16 then 4 else if x < 32 then 5 else if x < 64 then 6 else if x < 128 then 7 else 8
theorem lenTab_eq : ∀ x : Nat, x < 256 → bt lenTab (x : Int) = len8 (x : Int) := by decide +kernel
theorem lenAt_eq (n x : Int) (h0 : 0 ≤ x) (h1 : x < 256) (hn : 0 ≤ n) (hn' : n ≤ 56) : lenAt n x = some (.v (.int .i64 (n + len8 x))) := by
  have hw : IntKind.u8.wrap x = x := by rw [IntKind.wrap_u8]; omega
  obtain ⟨y, rfl⟩ := Int.eq_ofNat_of_zero_le h0
  have ht := lenTab_eq y (by omega)
  have hl : 0 ≤ len8 (y : Int) ∧ len8 (y : Int) ≤ 8 := by unfold len8; (repeat' split) <;> omega
  unfold lenAt
  have e1 : IntKind.i64.wrap (len8 (y : Int)) = len8 (y : Int) := by rw [IntKind.wrap_i64]; omega
  have e2 : IntKind.i64.wrap (n + len8 (y : Int)) = n + len8 (y : Int) := by rw [IntKind.wrap_i64]; omega
  rw [hw, decide_eq_true h0, decide_eq_true h1, ht, sel_true, sel_true, e1, e2]
def lenV (a : Int) : Int :=
  if 4294967296 ≤ a then
    (if 65536 ≤ a / 4294967296 then (if 256 ≤ a / 4294967296 / 65536 then 56 + len8 (a / 4294967296 / 65536 / 256) else 48 + len8 (a / 4294967296 / 65536))
      else (if 256 ≤ a / 4294967296 then 40 + len8 (a / 4294967296 / 256) else 32 + len8 (a / 4294967296)))
  else
    (if 65536 ≤ a then (if 256 ≤ a / 65536 then 24 + len8 (a / 65536 / 256) else 16 + len8 (a / 65536))
      else (if 256 ≤ a then 8 + len8 (a / 256) else 0 + len8 a))
def cLen : Con := fun args _ => match args with
  | [.v (.int .u64 a)] => .br (u64B a) (.ret ⟨.v (.int .i64 (lenV a)), []⟩) .fail
  | _ => .fail
theorem cLen_ok : ∀ B, ConOk Try.prog B 46 cLen := con_pure mixed Try.func46 (by kernel_rfl) rfl C0_ok (fun B' w => cn0_ok B' w _) (by
  intro args lo h out ids hr
  unfold cLen at hr
  split at hr
  · rename_i a
    obtain ⟨hb, hr⟩ := br_run hr
    cases hr
    refine ⟨rfl, rfl, ?_⟩
    rw [u64B_iff] at hb
    rw [len_tree]
    unfold s32 s16 s8
    simp only [sh32, sh16, sh8]
    unfold lenV
    by_cases h1 : 4294967296 ≤ a
    · rw [decide_eq_true h1, sel_true, if_pos h1]
      by_cases h2 : 65536 ≤ a / 4294967296
      · rw [decide_eq_true h2, sel_true, if_pos h2]
        by_cases h3 : 256 ≤ a / 4294967296 / 65536
        · rw [decide_eq_true h3, sel_true, if_pos h3, lenAt_eq _ _ (by omega) (by omega) (by omega) (by omega)]
        · rw [decide_eq_false h3, sel_false, if_neg h3, lenAt_eq _ _ (by omega) (by omega) (by omega) (by omega)]
      · rw [decide_eq_false h2, sel_false, if_neg h2]
        by_cases h3 : 256 ≤ a / 4294967296
        · rw [decide_eq_true h3, sel_true, if_pos h3, lenAt_eq _ _ (by omega) (by omega) (by omega) (by omega)]
        · rw [decide_eq_false h3, sel_false, if_neg h3, lenAt_eq _ _ (by omega) (by omega) (by omega) (by omega)]
    · rw [decide_eq_false h1, sel_false, if_neg h1]
      by_cases h2 : 65536 ≤ a
      · rw [decide_eq_true h2, sel_true, if_pos h2]
        by_cases h3 : 256 ≤ a / 65536
        · rw [decide_eq_true h3, sel_true, if_pos h3, lenAt_eq _ _ (by omega) (by omega) (by omega) (by omega)]
        · rw [decide_eq_false h3, sel_false, if_neg h3, lenAt_eq _ _ (by omega) (by omega) (by omega) (by omega)]
      · rw [decide_eq_false h2, sel_false, if_neg h2]
        by_cases h3 : 256 ≤ a
        · rw [decide_eq_true h3, sel_true, if_pos h3, lenAt_eq _ _ (by omega) (by omega) (by omega) (by omega)]
        · rw [decide_eq_false h3, sel_false, if_neg h3, lenAt_eq _ _ (by omega) (by omega) (by omega) (by omega)]
  · cases hr)
def lzV (a : Int) : Int := 64 - lenV a
def CLen : FuncId → Option Con
  | 46 => some cLen
  | _ => none
theorem CLen_ok : ∀ B' g φ, CLen g = some φ → ConOk Try.prog B' g φ := by
  intro B' g φ h
  unfold CLen at h
  split at h
  · cases h; exact cLen_ok B'
  · cases h
theorem lz_tree (a : Int) : evFn Try.prog CLen cn0 4 Try.f45 [.v (.int .u64 a)] [] 0 K1 =
    sel (u64B a) (some (.v (.int .i64 (IntKind.i64.wrap (64 - lenV a))))) none := by kernel_rfl
theorem lenV_bd (a : Int) : 0 ≤ lenV a ∧ lenV a ≤ 64 := by
  have : ∀ x, 0 ≤ len8 x ∧ len8 x ≤ 8 := fun x => by unfold len8; (repeat' split) <;> omega
  unfold lenV
  have h1 := this (a / 4294967296 / 65536 / 256)
  have h2 := this (a / 4294967296 / 65536)
  have h3 := this (a / 4294967296 / 256)
  have h4 := this (a / 4294967296)
  have h5 := this (a / 65536 / 256)
  have h6 := this (a / 65536)
  have h7 := this (a / 256)
  have h8 := this a
  (repeat' split) <;> omega
def cLz : Con := fun args _ => match args with
  | [.v (.int .u64 a)] => .br (u64B a) (.ret ⟨.v (.int .i64 (lzV a)), []⟩) .fail
  | _ => .fail
theorem cLz_ok : ∀ B, ConOk Try.prog B 45 cLz := con_pure mixed Try.func45 (by kernel_rfl) rfl CLen_ok (fun B' w => cn0_ok B' w _) (by
  intro args lo h out ids hr
  unfold cLz at hr
  split at hr
  · rename_i a
    obtain ⟨hb, hr⟩ := br_run hr
    cases hr
    refine ⟨rfl, rfl, ?_⟩
    have := lenV_bd a
    have hw : IntKind.i64.wrap (64 - lenV a) = lzV a := by rw [IntKind.wrap_i64]; unfold lzV; omega
    rw [lz_tree, hb, sel_true, hw]
  · cases hr)

end Go.Proofs.Ytcheokphnhjomaa.Ax
