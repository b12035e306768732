/- The pure statement of MarginAlone, by a program of this session's (wip/lawrow.py). -/
import Derived.Test.YtdhmhdhfgojofaaX13
namespace Go.Proofs.Ytdhmhdhfgojofaa.Print
open Go.RowKit Go.Proofs.YtdhmhdhfgojofaaW.PrintWords Go.Proofs.YtdhmhdhfgojofaaW.PrintLast
def octroilaw23_MarginAlone.Pure : Prop := ∀ (l0 : List (S38)) (a1 : Int), l0.length ≤ maxLen → l0.length * 16 ≤ 140737488351232 → (∀ x ∈ l0, ((Lit.int .i64 x.f0).wf = true ∧ (Lit.int .i64 x.f1).wf = true)) → (Lit.int .i64 a1).wf = true → ∃ k, octroilaw23_MarginAlone.f k l0 a1 = some true
end Go.Proofs.Ytdhmhdhfgojofaa.Print
