/- The pure statement of CivilOf, by a program of this session's (wip/lawrow.py). -/
import Derived.Test.YtckgjpklhfolnaaX18
namespace Go.Proofs.Ytckgjpklhfolnaa.Print
open Go.RowKit Go.Proofs.YtckgjpklhfolnaaW.PrintWords Go.Proofs.YtckgjpklhfolnaaW.PrintLast
def octroilaw04_CivilOf.Pure : Prop := ∀ (a0 : Int) (a1 : Int) (a2_0 : Int) (a2_1 : Int) (a2_2 : Int) (a3_0 : Int) (a3_1 : Int) (a3_2 : Int), (Lit.int .i64 a0).wf = true → (Lit.int .i64 a1).wf = true → (Lit.int .i64 a2_0).wf = true → (Lit.int .i64 a2_1).wf = true → (Lit.int .i64 a2_2).wf = true → (Lit.int .i64 a3_0).wf = true → (Lit.int .i64 a3_1).wf = true → (Lit.int .i64 a3_2).wf = true → ∃ k, octroilaw04_CivilOf.f k a0 a1 a2_0 a2_1 a2_2 a3_0 a3_1 a3_2 = some true
end Go.Proofs.Ytckgjpklhfolnaa.Print
