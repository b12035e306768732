/- The pure statement of CivilPeriods, by a program of this session's (wip/lawrow.py). -/
import Derived.Test.YtckgjpklhfolnaaX15
namespace Go.Proofs.Ytckgjpklhfolnaa.Print
open Go.RowKit Go.Proofs.YtckgjpklhfolnaaW.PrintWords Go.Proofs.YtckgjpklhfolnaaW.PrintLast
def octroilaw04_CivilPeriods.Pure : Prop := ∀ (a0_0 : Int) (a0_1 : Int) (a0_2 : Int) (a1 : Int) (a2 : Int), (Lit.int .i64 a0_0).wf = true → (Lit.int .i64 a0_1).wf = true → (Lit.int .i64 a0_2).wf = true → (Lit.int .i64 a1).wf = true → (Lit.int .i64 a2).wf = true → ∃ k, octroilaw04_CivilPeriods.f k a0_0 a0_1 a0_2 a1 a2 = some true
end Go.Proofs.Ytckgjpklhfolnaa.Print
