/- The walk of math/bits.Div64, and its contract. -/
import Derived.Test.YtcheokphnhjomaaBitsB
namespace Go.Proofs.Ytcheokphnhjomaa.Ax
open Go Go.RowKit
set_option linter.unusedVariables false
set_option linter.unusedSimpArgs false

def TDiv : Nat → Option (List Nat)
  | 17 => some [2, 8, 9, 10, 11, 13, 14, 15, 16]
  | 24 => some [2, 8, 9, 10, 14, 15, 16, 17, 18]
  | _ => none
def CLz : FuncId → Option Con
  | 45 => some cLz
  | _ => none
theorem CLz_ok : ∀ B' g φ, CLz g = some φ → ConOk Try.prog B' g φ := by
  intro B' g φ h
  unfold CLz at h
  split at h
  · cases h; exact cLz_ok B'
  · cases h
def pD1 : List Dir := [.R, .R, .R, .R, .R, .R, .R, .R, .R, .R, .R, .R, .R, .R, .L, .D]
def pD2 : List Dir := [.R, .R, .R, .R, .R, .R, .R, .R, .R, .R, .R, .R, .R, .R, .R, .R, .R, .R, .L, .D]
def HD1 (q r y s yn1 yn0 un32 un1 un0 : Int) : St := ⟨[(2, .v (.int .u64 y)), (8, .v (.int .u64 s)), (9, .v (.int .u64 yn1)), (10, .v (.int .u64 yn0)), (11, .v (.int .u64 un32)), (13, .v (.int .u64 un1)), (14, .v (.int .u64 un0)), (15, .v (.int .u64 q)), (16, .v (.int .u64 r))], [], 0⟩
def HD2 (q0 rh y s yn1 yn0 un0 q1 un21 : Int) : St := ⟨[(2, .v (.int .u64 y)), (8, .v (.int .u64 s)), (9, .v (.int .u64 yn1)), (10, .v (.int .u64 yn0)), (14, .v (.int .u64 un0)), (15, .v (.int .u64 q1)), (16, .v (.int .u64 rh)), (17, .v (.int .u64 un21)), (18, .v (.int .u64 q0))], [], 0⟩
noncomputable def LD1 (F k : Nat) (q r y s yn1 yn0 un32 un1 un0 : Int) : Option SV := loopAt (eff Try.prog CLz) Try.f40.ntmps (cnOf 0 TDiv) F Try.prog Try.f40 K1 pD1 k (HD1 q r y s yn1 yn0 un32 un1 un0)
noncomputable def LD2 (F k : Nat) (q0 rh y s yn1 yn0 un0 q1 un21 : Int) : Option SV := loopAt (eff Try.prog CLz) Try.f40.ntmps (cnOf 0 TDiv) F Try.prog Try.f40 K1 pD2 k (HD2 q0 rh y s yn1 yn0 un0 q1 un21)
def finD (q0 y s un0 q1 un21 : Int) : Option SV := sel (decide (s < 0)) none
  (some (.tup [.v (.int .u64 (IntKind.u64.wrap (IntKind.u64.wrap (q1 * 4294967296) + q0))), .v (.int .u64 ((IntKind.u64.wrap (IntKind.u64.wrap (IntKind.u64.wrap (un21 * 4294967296) + un0) - IntKind.u64.wrap (q0 * y))).fdiv (2 ^ min s.toNat IntKind.u64.bits)))]))
theorem LD2_eq (F k : Nat) (q0 rh y s yn1 yn0 un0 q1 un21 : Int) : LD2 F (k + 1) q0 rh y s yn1 yn0 un0 q1 un21 =
    sel (decide (4294967296 ≤ q0))
      (sel (decide (4294967296 ≤ IntKind.u64.wrap (rh + yn1))) (finD (IntKind.u64.wrap (q0 - 1)) y s un0 q1 un21) (LD2 F k (IntKind.u64.wrap (q0 - 1)) (IntKind.u64.wrap (rh + yn1)) y s yn1 yn0 un0 q1 un21))
      (sel (decide (IntKind.u64.wrap (IntKind.u64.wrap (4294967296 * rh) + un0) < IntKind.u64.wrap (q0 * yn0)))
        (sel (decide (4294967296 ≤ IntKind.u64.wrap (rh + yn1))) (finD (IntKind.u64.wrap (q0 - 1)) y s un0 q1 un21) (LD2 F k (IntKind.u64.wrap (q0 - 1)) (IntKind.u64.wrap (rh + yn1)) y s yn1 yn0 un0 q1 un21))
        (finD q0 y s un0 q1 un21)) := by kernel_rfl
def un21V (q y un32 un1 : Int) : Int := IntKind.u64.wrap (IntKind.u64.wrap (IntKind.u64.wrap (un32 * 4294967296) + un1) - IntKind.u64.wrap (q * y))
noncomputable def postD (F : Nat) (q y s yn1 yn0 un32 un1 un0 : Int) : Option SV := sel (decide (yn1 = 0)) none
  (LD2 F F (IntKind.u64.wrap ((un21V q y un32 un1).tdiv yn1)) (IntKind.u64.wrap (un21V q y un32 un1 - IntKind.u64.wrap (IntKind.u64.wrap ((un21V q y un32 un1).tdiv yn1) * yn1))) y s yn1 yn0 un0 q (un21V q y un32 un1))
theorem LD1_eq (F k : Nat) (q r y s yn1 yn0 un32 un1 un0 : Int) : LD1 F (k + 1) q r y s yn1 yn0 un32 un1 un0 =
    sel (decide (4294967296 ≤ q))
      (sel (decide (4294967296 ≤ IntKind.u64.wrap (r + yn1))) (postD F (IntKind.u64.wrap (q - 1)) y s yn1 yn0 un32 un1 un0) (LD1 F k (IntKind.u64.wrap (q - 1)) (IntKind.u64.wrap (r + yn1)) y s yn1 yn0 un32 un1 un0))
      (sel (decide (IntKind.u64.wrap (IntKind.u64.wrap (4294967296 * r) + un1) < IntKind.u64.wrap (q * yn0)))
        (sel (decide (4294967296 ≤ IntKind.u64.wrap (r + yn1))) (postD F (IntKind.u64.wrap (q - 1)) y s yn1 yn0 un32 un1 un0) (LD1 F k (IntKind.u64.wrap (q - 1)) (IntKind.u64.wrap (r + yn1)) y s yn1 yn0 un32 un1 un0))
        (postD F q y s yn1 yn0 un32 un1 un0)) := by kernel_rfl
def sD (c : Int) : Int := IntKind.u64.wrap (lzV c)
def yD (c : Int) : Int := IntKind.u64.wrap (c * 2 ^ min (sD c).toNat IntKind.u64.bits)
def y1D (c : Int) : Int := (yD c).fdiv (2 ^ min 32 IntKind.u64.bits)
def u32D (a b c : Int) : Int := bits BinOp.or IntKind.u64 (IntKind.u64.wrap (a * 2 ^ min (sD c).toNat IntKind.u64.bits)) (b.fdiv (2 ^ min (IntKind.u64.wrap (64 - sD c)).toNat IntKind.u64.bits))
def u10D (b c : Int) : Int := IntKind.u64.wrap (b * 2 ^ min (sD c).toNat IntKind.u64.bits)
theorem div_tree (F : Nat) (a b c : Int) : evFn Try.prog CLz (cnOf 0 TDiv) F Try.f40 [.v (.int .u64 a), .v (.int .u64 b), .v (.int .u64 c)] [] 0 K1 =
    sel (c == 0) none (sel (decide (c ≤ a)) none
      (sel (a == 0) (sel (decide (c = 0)) none (sel (decide (c = 0)) none (some (.tup [.v (.int .u64 (IntKind.u64.wrap (b.tdiv c))), .v (.int .u64 (b.tmod c))]))))
        (sel (u64B c) (sel (decide (sD c < 0)) none (sel (decide (sD c < 0)) none (sel (decide (IntKind.u64.wrap (64 - sD c) < 0)) none (sel (decide (sD c < 0)) none
          (sel (decide (y1D c = 0)) none
            (LD1 F F (IntKind.u64.wrap ((u32D a b c).tdiv (y1D c))) (IntKind.u64.wrap (u32D a b c - IntKind.u64.wrap (IntKind.u64.wrap ((u32D a b c).tdiv (y1D c)) * y1D c))) (yD c) (sD c) (y1D c) (bits BinOp.and IntKind.u64 (yD c) 4294967295) (u32D a b c)
              ((u10D b c).fdiv (2 ^ min 32 IntKind.u64.bits)) (bits BinOp.and IntKind.u64 (u10D b c) 4294967295))))))) none))) := by kernel_rfl

end Go.Proofs.Ytcheokphnhjomaa.Ax
