/- The law PeriodOnce as the rows want it. -/
import Derived.Test.YtmgfaoomdpgbhaaPerOnceB
import Derived.Test.YtmgfaoomdpgbhaaStep27
namespace Go.Proofs.Ytmgfaoomdpgbhaa.Print
open Go Go.RowKit Go.Proofs.YtmgfaoomdpgbhaaW.PrintWords Go.Proofs.Ytmgfaoomdpgbhaa.Ax
set_option linter.unusedVariables false
set_option linter.unusedSimpArgs false

def octroilaw27_PeriodOnce.f (a0 : Int) (a1 : Int) (l2 : List S30) (a3_0 a3_1 a3_2 : Int) : Option Bool := some true
theorem octroilaw27_PeriodOnce.calls (a0 : Int) (a1 : Int) (A2 : Option Addr) (c2 : Nat) (l2 : List S30) (a3_0 a3_1 a3_2 : Int) (r : Bool) (w : World) (hr2 : Kd.C k30 w A2 l2.length l2) (hc2 : l2.length ≤ c2) (h : octroilaw27_PeriodOnce.f a0 a1 l2 a3_0 a3_1 a3_2 = some r) :
    Calls Try.prog 3 #[.int .i64 a0, .int .i64 a1, .slice A2 l2.length c2, .agg #[.int .i64 a3_0, .int .i64 a3_1, .int .i64 a3_2]] w fun e w' => e = .returned (.bool r) ∧ Below w.heap.size w w' := by
  obtain rfl : true = r := Option.some.inj h
  by_cases hl : l2 = []
  · subst hl
    have hev : evFn Try.prog CLaw (cnOf 0 TOnce) 2 Try.f3 [.v (.int .i64 a0), .v (.int .i64 a1), .v (.slice A2 0 c2), .agg [.v (.int .i64 a3_0), .v (.int .i64 a3_1), .v (.int .i64 a3_2)]] [] 0 K1 = some (.v (.bool true)) := by
      rw [once_nil]
      cases ((ofV a1 a0).2.2.2 != 0 || a0 == 3) <;> rfl
    exact calls_of_ev mixed Try.func3 (by kernel_rfl) rfl CLaw_ok (fun B' w => cnOf_ok (pin := 0) (T := TOnce)) hev rfl rfl rfl rho0 w
  · obtain ⟨L, h1, h2, h3, rfl, h5⟩ := arg_of_C stepT_enc rfl (by decide) hr2 hc2 hl
    have := calls_of_arg mixed Try.func3 CLaw_ok (fun B' w => cnOf_ok (pin := 1) (T := TOnce)) (once_ev (l2.map stepT) a0 a1 a3_0 a3_1 a3_2) rfl (fun _ => L) w (h5 _)
    have hargs : (denL (fun _ => L) [.v (.int .i64 a0), .v (.int .i64 a1), .all 0, .agg [.v (.int .i64 a3_0), .v (.int .i64 a3_1), .v (.int .i64 a3_2)]]).toArray = #[.int .i64 a0, .int .i64 a1, .slice (some ⟨L.blk, L.off, none⟩) l2.length c2, .agg #[.int .i64 a3_0, .int .i64 a3_1, .int .i64 a3_2]] := by
      simp only [denL, den, h1, h2, h3, Bool.false_eq_true, if_false]
    rw [hargs] at this
    exact this
end Go.Proofs.Ytmgfaoomdpgbhaa.Print
