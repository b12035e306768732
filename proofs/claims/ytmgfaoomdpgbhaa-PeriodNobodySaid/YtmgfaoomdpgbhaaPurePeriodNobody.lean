/- PeriodNobody. -/
import Derived.Test.YtmgfaoomdpgbhaaSayPeriodNobody
namespace Go.Proofs.Ytmgfaoomdpgbhaa.Pure
open Go.RowKit Go.Proofs.Ytmgfaoomdpgbhaa.Print
theorem PeriodNobody : octroilaw27_PeriodNobody.Pure := by
  intro a b c d _ _ _ _; rfl
end Go.Proofs.Ytmgfaoomdpgbhaa.Pure
