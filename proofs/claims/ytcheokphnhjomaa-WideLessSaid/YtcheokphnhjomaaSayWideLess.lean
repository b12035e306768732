/- The pure statement of WideLess, by a program of this session's (wip/lawrow.py). -/
import Derived.Test.YtcheokphnhjomaaX15
namespace Go.Proofs.Ytcheokphnhjomaa.Print
open Go.RowKit Go.Proofs.YtcheokphnhjomaaW.PrintWords Go.Proofs.YtcheokphnhjomaaW.PrintLast
def octroilaw02_WideLess.Pure : Prop := ∀ (a0_0 : Int) (a0_1 : Int) (a0_2 : Int) (a0_3 : Int), (Lit.int .i64 a0_0).wf = true → (Lit.int .i64 a0_1).wf = true → (Lit.int .i64 a0_2).wf = true → (Lit.int .i64 a0_3).wf = true → ∃ k, octroilaw02_WideLess.f k a0_0 a0_1 a0_2 a0_3 = some true
end Go.Proofs.Ytcheokphnhjomaa.Print
