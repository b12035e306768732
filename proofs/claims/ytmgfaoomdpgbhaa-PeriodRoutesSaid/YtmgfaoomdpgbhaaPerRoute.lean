/- The walk of the law PeriodRoutes: its loop over the steps, and what is told behind it. -/
import Derived.Test.YtmgfaoomdpgbhaaPerOnce
import Derived.Test.YtmgfaoomdpgbhaaClk
import Derived.Test.YtmgfaoomdpgbhaaX0
import Derived.Test.YtmgfaoomdpgbhaaAx14
import Derived.Test.YtmgfaoomdpgbhaaAx4
import Derived.Test.YtmgfaoomdpgbhaaAx8
import Derived.Test.YtmgfaoomdpgbhaaPerOnce
import Derived.Test.YtmgfaoomdpgbhaaPeriodA
import Derived.Test.YtmgfaoomdpgbhaaPeriodB
import Derived.Test.YtmgfaoomdpgbhaaPeriodC
import Derived.Test.YtmgfaoomdpgbhaaRef04C
import Derived.Test.YtmgfaoomdpgbhaaRowA
import Derived.Test.YtmgfaoomdpgbhaaX7
namespace Go.Proofs.Ytmgfaoomdpgbhaa.Ax
open Go Go.RowKit Go.Proofs.Ytmgfaoomdpgbhaa.Print
set_option linter.unusedVariables false
set_option linter.unusedSimpArgs false

def cWithin (k : Nat) : Con := fun args _ => match args with
  | [.agg [.v (.int .i64 K), .v (.int .i64 Y), .v (.int .i64 I)], .v (.int .i64 d)] => .opt (octroiref04_Within.f k K Y I d) fun r => .ret ⟨.v (.bool r), []⟩
  | _ => .fail
theorem opt_run' {γ α : Type} (x : Option γ) (k : γ → Rd α) (h : Hp) : (Rd.opt x k).run h = (match x with | some y => (k y).run h | none => none) := by cases x <;> rfl
theorem cWithin_ok (k B) : ConOk Try.prog B 14 (cWithin k) := by
  intro args ρ h w lo out ids hr hrh hfr hfa up
  unfold cWithin at hr
  split at hr
  · rename_i K Y I d
    replace hr := (opt_run' _ _ _).symm.trans hr
    cases hf : octroiref04_Within.f k K Y I d with
    | none => rw [hf] at hr; cases hr
    | some r =>
      rw [hf] at hr
      cases hr
      exact gives_same (s := .v (.bool r)) (fn := Try.f14) Try.func14 (by kernel_rfl) (by kernel_rfl) hrh up (octroiref04_Within.calls k K Y I d r w hf)
  · cases hr
def cCmp4 (k : Nat) : Con := fun args _ => match args with
  | [.agg [.v (.int .i64 K), .v (.int .i64 Y), .v (.int .i64 I)], .agg [.v (.int .i64 K'), .v (.int .i64 Y'), .v (.int .i64 I')]] => .opt (octroiref04_Cmp.f k K Y I K' Y' I') fun r => .ret ⟨.v (.int .i64 r), []⟩
  | _ => .fail
theorem cCmp4_ok (k B) : ConOk Try.prog B 15 (cCmp4 k) := by
  intro args ρ h w lo out ids hr hrh hfr hfa up
  unfold cCmp4 at hr
  split at hr
  · rename_i K Y I K' Y' I'
    replace hr := (opt_run' _ _ _).symm.trans hr
    cases hf : octroiref04_Cmp.f k K Y I K' Y' I' with
    | none => rw [hf] at hr; cases hr
    | some r =>
      rw [hf] at hr
      cases hr
      exact gives_same (s := .v (.int .i64 r)) (fn := Try.f15) Try.func15 (by kernel_rfl) (by kernel_rfl) hrh up (octroiref04_Cmp.calls k K Y I K' Y' I' r w hf)
  · cases hr
def CRt (k : Nat) : FuncId → Option Con
  | 14 => some (cWithin k)
  | 15 => some (cCmp4 k)
  | g => CLaw g
theorem CRt_ok (k) : ∀ B' g φ, CRt k g = some φ → ConOk Try.prog B' g φ := by
  intro B' g φ h
  unfold CRt at h
  split at h
  · cases h; exact cWithin_ok k B'
  · cases h; exact cCmp4_ok k B'
  · exact CLaw_ok B' _ φ h

def TRoute : Nat → Option (List Nat)
  | 7 => some [3, 9, 25, 26, 27]
  | _ => none
def pRoute : List Dir := [.R, .R, .R, .R, .L, .R, .D]
def HRoute (l : List I4) (i d k y m a b : Int) : St := ⟨[(3, .v (.int .i64 d)), (9, .ptr 1 0), (25, .all 0), (26, .v (.int .i64 l.length)), (27, .v (.int .i64 i))],
  [(0, .arg stS l), (1, .cells 58 (clkC k y m a b))], 3⟩
noncomputable def LRt (q F kk : Nat) (l : List I4) (i d k y m a b : Int) : Option SV := loopAt (eff Try.prog (CRt q)) Try.f4.ntmps (cnOf 1 TRoute) F Try.prog Try.f4 K1 pRoute kk (HRoute l i d k y m a b)
def yes : Option SV := some (.v (.bool true))
def finRt (W : Int → Int → Int → Int → Option Bool) (Cm : Int → Int → Int → Int → Int → Int → Option Int) (d k y m a b : Int) (p o : Int × Int × Int) (e : Int) : Option SV :=
  sel (e != 0) (sel (zeroB p) (sel (same3 o p) yes bad) bad)
    (obnd (W o.1 o.2.1 o.2.2 d) fun w => sel w (sel (stateV k y m a b p.1 p.2.1 p.2.2 == 1) (obnd (Cm o.1 o.2.1 o.2.2 p.1 p.2.1 p.2.2) fun c => sel (decide (c ≤ 0))
      (sel (same3 o p) yes (sel (stateV k y m a b o.1 o.2.1 o.2.2 != 1) (sel (rngB a) (sel (same3 p (frV k y m a)) yes bad) none) bad)) bad) bad) bad)
noncomputable def bodyRt (q F kk : Nat) (l : List I4) (i d k y m a b : Int) (P : Int × Int × Int) : Option SV :=
  LRt q F kk l (IntKind.i64.wrap (i + 1)) d k y m (closeV k y m a b P.1 P.2.1 P.2.2).2 (fileV k y m (closeV k y m a b P.1 P.2.1 P.2.2).2 b P.1 P.2.1 P.2.2).2
theorem LRt_eq (q F kk : Nat) (l : List I4) (i d k y m a b : Int) : LRt q F (kk + 1) l i d k y m a b =
    sel (decide (i < (l.length : Int))) (sel (decide (0 ≤ i)) (sel (decide (i < (l.length : Int))) (sel (decide (i.toNat < l.length))
      (sel ((at4 l i).1 == 2) (sel (rngB a) (bodyRt q F kk l i d k y m a b (frV k y m a)) none) (bodyRt q F kk l i d k y m a b (at4 l i).2)) none) none) none)
      (sel (rngB a) (finRt (octroiref04_Within.f q) (octroiref04_Cmp.f q) d k y m a b (routeV k y m a b d).1 (routeV k y m a b d).2.1 (routeV k y m a b d).2.2) none) := by kernel_rfl
theorem route_law_tree (q F : Nat) (l : List I4) (kd dd d : Int) : evFn Try.prog (CRt q) (cnOf 1 TRoute) F Try.f4 [.v (.int .i64 kd), .v (.int .i64 dd), .all 0, .v (.int .i64 d)] [(0, .arg stS l)] 1 K1 =
    sel (decide (60 < (l.length : Int))) (some (.v (.bool true))) (sel ((ofV dd kd).2.2.2 != 0 || kd == 3) (some (.v (.bool true)))
      (LRt q F F l 0 d (ofV dd kd).1 (ofV dd kd).2.1 (ofV dd kd).2.2.1 0 0)) := by kernel_rfl
theorem route_law_nil (q : Nat) (A : Option Addr) (c : Nat) (kd dd d : Int) : evFn Try.prog (CRt q) (cnOf 0 TRoute) 2 Try.f4 [.v (.int .i64 kd), .v (.int .i64 dd), .v (.slice A 0 c), .v (.int .i64 d)] [] 0 K1 =
    sel ((ofV dd kd).2.2.2 != 0 || kd == 3) (some (.v (.bool true)))
      (sel (rngB 0) (finRt (octroiref04_Within.f q) (octroiref04_Cmp.f q) d (ofV dd kd).1 (ofV dd kd).2.1 (ofV dd kd).2.2.1 0 0 (routeV (ofV dd kd).1 (ofV dd kd).2.1 (ofV dd kd).2.2.1 0 0 d).1 (routeV (ofV dd kd).1 (ofV dd kd).2.1 (ofV dd kd).2.2.1 0 0 d).2.1 (routeV (ofV dd kd).1 (ofV dd kd).2.1 (ofV dd kd).2.2.1 0 0 d).2.2) none) := by kernel_rfl
end Go.Proofs.Ytmgfaoomdpgbhaa.Ax
