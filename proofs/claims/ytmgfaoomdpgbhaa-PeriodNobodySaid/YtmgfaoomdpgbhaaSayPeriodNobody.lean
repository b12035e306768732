/- The pure statement of PeriodNobody, by a program of this session's (wip/lawrow.py). -/
import Derived.Test.YtmgfaoomdpgbhaaPerNobody
namespace Go.Proofs.Ytmgfaoomdpgbhaa.Print
open Go.RowKit Go.Proofs.YtmgfaoomdpgbhaaW.PrintWords Go.Proofs.YtmgfaoomdpgbhaaW.PrintLast
def octroilaw27_PeriodNobody.Pure : Prop := ∀ (a0_0 : Int) (a0_1 : Int) (a0_2 : Int) (a1 : Int), (Lit.int .i64 a0_0).wf = true → (Lit.int .i64 a0_1).wf = true → (Lit.int .i64 a0_2).wf = true → (Lit.int .i64 a1).wf = true → octroilaw27_PeriodNobody.f a0_0 a0_1 a0_2 a1 = some true
end Go.Proofs.Ytmgfaoomdpgbhaa.Print
