/- The walk of the law PeriodNobody. -/
import Derived.Test.YtmgfaoomdpgbhaaPeriodC
namespace Go.Proofs.Ytmgfaoomdpgbhaa.Ax
open Go Go.RowKit Go.Proofs.Ytmgfaoomdpgbhaa.Print
set_option linter.unusedVariables false
theorem nobody_ev (k y i d : Int) : evFn Try.prog CLaw cn0 8 Try.f6 [.agg [.v (.int .i64 k), .v (.int .i64 y), .v (.int .i64 i)], .v (.int .i64 d)] [] 0 K1 = some (.v (.bool true)) := by kernel_rfl
end Go.Proofs.Ytmgfaoomdpgbhaa.Ax
namespace Go.Proofs.Ytmgfaoomdpgbhaa.Print
open Go Go.RowKit Go.Proofs.Ytmgfaoomdpgbhaa.Ax
set_option linter.unusedVariables false
def octroilaw27_PeriodNobody.f (a0_0 a0_1 a0_2 a1 : Int) : Option Bool := some true
theorem octroilaw27_PeriodNobody.calls (a0_0 a0_1 a0_2 a1 : Int) (r : Bool) (w : World) (h : octroilaw27_PeriodNobody.f a0_0 a0_1 a0_2 a1 = some r) :
    Calls Try.prog 6 #[.agg #[.int .i64 a0_0, .int .i64 a0_1, .int .i64 a0_2], .int .i64 a1] w fun e w' => e = .returned (.bool r) ∧ Below w.heap.size w w' := by
  obtain rfl : true = r := Option.some.inj h
  exact calls_of_ev mixed Try.func6 (by kernel_rfl) rfl CLaw_ok (fun B' w => cn0_ok B' w _) (nobody_ev a0_0 a0_1 a0_2 a1) rfl rfl rfl rho0 w
end Go.Proofs.Ytmgfaoomdpgbhaa.Print
