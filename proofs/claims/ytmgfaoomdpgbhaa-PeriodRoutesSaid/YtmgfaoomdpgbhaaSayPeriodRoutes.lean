/- The pure statement of PeriodRoutes, by a program of this session's (wip/lawrow.py). -/
import Derived.Test.YtmgfaoomdpgbhaaPerRouteB
namespace Go.Proofs.Ytmgfaoomdpgbhaa.Print
open Go.RowKit Go.Proofs.YtmgfaoomdpgbhaaW.PrintWords Go.Proofs.YtmgfaoomdpgbhaaW.PrintLast
def octroilaw27_PeriodRoutes.Pure : Prop := ∀ (a0 : Int) (a1 : Int) (l2 : List (S30)) (a3 : Int), (Lit.int .i64 a0).wf = true → (Lit.int .i64 a1).wf = true → l2.length ≤ maxLen → l2.length * 32 ≤ 140737488351232 → (∀ x ∈ l2, ((Lit.int .i64 x.f0).wf = true ∧ ((Lit.int .i64 x.f1.f0).wf = true ∧ ((Lit.int .i64 x.f1.f1).wf = true ∧ (Lit.int .i64 x.f1.f2).wf = true)))) → (Lit.int .i64 a3).wf = true → octroilaw27_PeriodRoutes.f a0 a1 l2 a3 = some true
end Go.Proofs.Ytmgfaoomdpgbhaa.Print
