/- The walk of the law PeriodOnce: its loop over the steps. -/
import Derived.Test.YtmgfaoomdpgbhaaPeriodC
namespace Go.Proofs.Ytmgfaoomdpgbhaa.Ax
open Go Go.RowKit Go.Proofs.Ytmgfaoomdpgbhaa.Print
set_option linter.unusedVariables false
set_option linter.unusedSimpArgs false

abbrev stS : List Sc := [.int .i64, .int .i64, .int .i64, .int .i64]
abbrev I4 : Type := Int × Int × Int × Int
def at4 (l : List I4) (i : Int) : I4 := l.getD i.toNat (0, 0, 0, 0)
def TOnce : Nat → Option (List Nat)
  | 8 => some [7, 9, 10, 30, 31, 32]
  | _ => none
def pOnce : List Dir := [.R, .R, .R, .R, .R, .L, .R, .D]
def HOnce (l : List I4) (i last k y m a b K Y I : Int) : St := ⟨[(7, .ptr 1 0), (9, .ptr 2 0), (10, .v (.int .i64 last)), (30, .all 0), (31, .v (.int .i64 l.length)), (32, .v (.int .i64 i))],
  [(0, .arg stS l), (1, .cells 24 [.v (.int .i64 K), .v (.int .i64 Y), .v (.int .i64 I)]), (2, .cells 58 (clkC k y m a b))], 4⟩
noncomputable def LO (F kk : Nat) (l : List I4) (i last k y m a b K Y I : Int) : Option SV := loopAt (eff Try.prog CLaw) Try.f3.ntmps (cnOf 1 TOnce) F Try.prog Try.f3 K1 pOnce kk (HOnce l i last k y m a b K Y I)
def bad : Option SV := some (.v (.bool false))
def tailT (e own is : Int) (R : Option SV) : Option SV := sel (e != 0) (sel (is != own) bad (sel (e == 0) (sel (is != IntKind.i64.wrap (own + 1)) bad R) R)) (sel (e == 0) (sel (is != IntKind.i64.wrap (own + 1)) bad R) R)
def chkT (e own is now last : Int) (same : Bool) (R : Option SV) : Option SV := sel (decide (now < last)) bad (sel (decide (last < now)) (sel (!same) bad (tailT e own is R)) (tailT e own is R))
def same3 (P Q : Int × Int × Int) : Bool := P.1 == Q.1 && (P.2.1 == Q.2.1 && (P.2.2 == Q.2.2 && true))
noncomputable def bodyT (F kk : Nat) (l : List I4) (i last k y m a b K Y I kd : Int) (P : Int × Int × Int) : Option SV :=
  sel (Int.tmod kd 2 == 0)
    (chkT (closeV k y m a b P.1 P.2.1 P.2.2).1 (stateV k y m a b P.1 P.2.1 P.2.2) (stateV k y m (closeV k y m a b P.1 P.2.1 P.2.2).2 b P.1 P.2.1 P.2.2) (stateV k y m (closeV k y m a b P.1 P.2.1 P.2.2).2 b K Y I) last (same3 P (K, Y, I))
      (LO F kk l (IntKind.i64.wrap (i + 1)) (stateV k y m (closeV k y m a b P.1 P.2.1 P.2.2).2 b K Y I) k y m (closeV k y m a b P.1 P.2.1 P.2.2).2 b K Y I))
    (chkT (fileV k y m a b P.1 P.2.1 P.2.2).1 (stateV k y m a b P.1 P.2.1 P.2.2) (stateV k y m a (fileV k y m a b P.1 P.2.1 P.2.2).2 P.1 P.2.1 P.2.2) (stateV k y m a (fileV k y m a b P.1 P.2.1 P.2.2).2 K Y I) last (same3 P (K, Y, I))
      (LO F kk l (IntKind.i64.wrap (i + 1)) (stateV k y m a (fileV k y m a b P.1 P.2.1 P.2.2).2 K Y I) k y m a (fileV k y m a b P.1 P.2.1 P.2.2).2 K Y I))
theorem LO_eq (F kk : Nat) (l : List I4) (i last k y m a b K Y I : Int) : LO F (kk + 1) l i last k y m a b K Y I =
    sel (decide (i < (l.length : Int))) (sel (decide (0 ≤ i)) (sel (decide (i < (l.length : Int))) (sel (decide (i.toNat < l.length))
      (sel ((at4 l i).1 == 2) (sel (rngB a) (bodyT F kk l i last k y m a b K Y I (at4 l i).1 (frV k y m a)) none) (bodyT F kk l i last k y m a b K Y I (at4 l i).1 (at4 l i).2)) none) none) none) (some (.v (.bool true))) := by kernel_rfl
end Go.Proofs.Ytmgfaoomdpgbhaa.Ax
