/- The pure statement of PeriodOnce, by a program of this session's (wip/lawrow.py). -/
import Derived.Test.YtmgfaoomdpgbhaaPerOnceC
namespace Go.Proofs.Ytmgfaoomdpgbhaa.Print
open Go.RowKit Go.Proofs.YtmgfaoomdpgbhaaW.PrintWords Go.Proofs.YtmgfaoomdpgbhaaW.PrintLast
def octroilaw27_PeriodOnce.Pure : Prop := ∀ (a0 : Int) (a1 : Int) (l2 : List (S30)) (a3_0 : Int) (a3_1 : Int) (a3_2 : Int), (Lit.int .i64 a0).wf = true → (Lit.int .i64 a1).wf = true → l2.length ≤ maxLen → l2.length * 32 ≤ 140737488351232 → (∀ x ∈ l2, ((Lit.int .i64 x.f0).wf = true ∧ ((Lit.int .i64 x.f1.f0).wf = true ∧ ((Lit.int .i64 x.f1.f1).wf = true ∧ (Lit.int .i64 x.f1.f2).wf = true)))) → (Lit.int .i64 a3_0).wf = true → (Lit.int .i64 a3_1).wf = true → (Lit.int .i64 a3_2).wf = true → octroilaw27_PeriodOnce.f a0 a1 l2 a3_0 a3_1 a3_2 = some true
end Go.Proofs.Ytmgfaoomdpgbhaa.Print
