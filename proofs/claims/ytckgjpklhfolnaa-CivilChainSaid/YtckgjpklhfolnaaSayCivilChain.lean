/- The pure statement of CivilChain, by a program of this session's (wip/lawrow.py). -/
import Derived.Test.YtckgjpklhfolnaaX16
namespace Go.Proofs.Ytckgjpklhfolnaa.Print
open Go.RowKit Go.Proofs.YtckgjpklhfolnaaW.PrintWords Go.Proofs.YtckgjpklhfolnaaW.PrintLast
def octroilaw04_CivilChain.Pure : Prop := ∀ (a0_0 : Int) (a0_1 : Int) (a0_2 : Int), (Lit.int .i64 a0_0).wf = true → (Lit.int .i64 a0_1).wf = true → (Lit.int .i64 a0_2).wf = true → ∃ k, octroilaw04_CivilChain.f k a0_0 a0_1 a0_2 = some true
end Go.Proofs.Ytckgjpklhfolnaa.Print
