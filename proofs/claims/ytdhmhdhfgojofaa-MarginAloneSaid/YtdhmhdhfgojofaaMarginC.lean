/- The walk of margin.Pool: its loop over the deals. -/
import Derived.Test.YtdhmhdhfgojofaaMarginB
namespace Go.Proofs.Ytdhmhdhfgojofaa.Ax
open Go Go.RowKit Go.Proofs.Ytdhmhdhfgojofaa.Print Go.Proofs.YtdhmhdhfgojofaaW.PrintWords
set_option linter.unusedVariables false
set_option linter.unusedSimpArgs false

def CPool : FuncId → Option Con
  | 20 => some cSum2
  | 19 => some cGather
  | 18 => some cMay
  | g => CMarg g
theorem CPool_ok : ∀ B' g φ, CPool g = some φ → ConOk Try.prog B' g φ := by
  intro B' g φ h
  unfold CPool at h
  split at h
  · cases h; exact cSum2_ok B'
  · cases h; exact cGather_ok B'
  · cases h; exact cMay_ok B'
  · exact CMarg_ok B' _ φ h
abbrev dS : List Sc := [.int .i64, .int .i64]
abbrev I2 : Type := Int × Int
def at2 (l : List I2) (i : Int) : I2 := l.getD i.toNat (0, 0)
def TPool : Nat → Option (List Nat)
  | 6 => some [1, 10, 11, 36, 37, 38]
  | _ => none
def pPool : List Dir := [.R, .R, .R, .R, .L, .R, .D]
def slPool (l : List I2) (i bp : Int) : List (Nat × SV) := [(1, .v (.int .i64 bp)), (10, .ptr 1 0), (11, .fn (.func 19) [] [.ptr 1 0]), (36, .all 0), (37, .v (.int .i64 l.length)), (38, .v (.int .i64 i))]
def HPoolA (l : List I2) (i bp x : Int) : St := ⟨slPool l i bp, [(0, .arg dS l), (1, bxS (.slc 2 1 0 1 (some 1))), (2, .cells 3 [.v (.int .i64 x)])], 4⟩
def HPoolB (l : List I2) (i bp : Int) (r : List Int) : St := ⟨slPool l i bp, [(0, .arg dS l), (1, bxS (.all 2)), (2, .row 3 [.int .i64] r)], 4⟩
noncomputable def LPA (F kk : Nat) (l : List I2) (i bp x : Int) : Option SV := loopAt (eff Try.prog CPool) Try.f9.ntmps (cnOf 1 TPool) F Try.prog Try.f9 K1 pPool kk (HPoolA l i bp x)
noncomputable def LPB (F kk : Nat) (l : List I2) (i bp : Int) (r : List Int) : Option SV := loopAt (eff Try.prog CPool) Try.f9.ntmps (cnOf 1 TPool) F Try.prog Try.f9 K1 pPool kk (HPoolB l i bp r)
def int4 (a b c d : Int) : Option SV := some (.tup [.v (.int .i64 a), .v (.int .i64 b), .v (.int .i64 c), .v (.int .i64 d)])
def finP (s : Int × Int) (P : Int × Int × Int) : Option SV := sel (s.2 != 0) (int4 0 0 0 s.2) (sel (decide (s.1 < 0)) (int4 0 0 (IntKind.i64.wrap (0 - s.1)) 0) (int4 P.1 P.2.1 0 P.2.2))
theorem LPA_eq (F kk : Nat) (l : List I2) (i bp x : Int) : LPA F (kk + 1) l i bp x =
    sel (decide (i < (l.length : Int))) (sel (decide (0 ≤ i)) (sel (decide (i < (l.length : Int))) (sel (decide (i.toNat < l.length))
      (sel (!dealB (at2 l i).1 (at2 l i).2) (int4 0 0 0 2) (LPB F kk l (IntKind.i64.wrap (i + 1)) bp [x, (at2 l i).1, neg64 (at2 l i).2])) none) none) none)
      (finP (smV [x]) (partV (smV [x]).1 true bp)) := by kernel_rfl
theorem LPB_eq (F kk : Nat) (l : List I2) (i bp : Int) (r : List Int) : LPB F (kk + 1) l i bp r =
    sel (decide (i < (l.length : Int))) (sel (decide (0 ≤ i)) (sel (decide (i < (l.length : Int))) (sel (decide (i.toNat < l.length))
      (sel (Nat.ble (r.length + 2) 1000000000) (sel (!dealB (at2 l i).1 (at2 l i).2) (int4 0 0 0 2) (LPB F kk l (IntKind.i64.wrap (i + 1)) bp (appI r (at2 l i).1 (neg64 (at2 l i).2)))) none) none) none) none)
      (sel (okLen r) (finP (smV r) (partV (smV r).1 true bp)) none) := by kernel_rfl
theorem pool_tree (F : Nat) (l : List I2) (bp carry : Int) : evFn Try.prog CPool (cnOf 1 TPool) F Try.f9 [.all 0, .v (.int .i64 bp), .v (.int .i64 carry)] [(0, .arg dS l)] 1 K1 =
    sel (decide (1048576 < (l.length : Int))) (int4 0 0 0 2) (sel (decide (carry < 0)) (int4 0 0 0 2) (sel (!mayB carry) (int4 0 0 0 2) (sel (!bpB bp) (int4 0 0 0 2) (LPA F F l 0 bp (neg64 carry))))) := by kernel_rfl
theorem pool_nil (A : Option Addr) (c : Nat) (bp carry : Int) : evFn Try.prog CPool (cnOf 0 TPool) 2 Try.f9 [.v (.slice A 0 c), .v (.int .i64 bp), .v (.int .i64 carry)] [] 0 K1 =
    sel (decide (carry < 0)) (int4 0 0 0 2) (sel (!mayB carry) (int4 0 0 0 2) (sel (!bpB bp) (int4 0 0 0 2) (finP (smV [neg64 carry]) (partV (smV [neg64 carry]).1 true bp)))) := by kernel_rfl
end Go.Proofs.Ytdhmhdhfgojofaa.Ax
