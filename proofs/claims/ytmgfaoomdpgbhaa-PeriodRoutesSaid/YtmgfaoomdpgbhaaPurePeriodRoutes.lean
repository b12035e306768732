/- PeriodRoutes. -/
import Derived.Test.YtmgfaoomdpgbhaaSayPeriodRoutes
namespace Go.Proofs.Ytmgfaoomdpgbhaa.Pure
open Go.RowKit Go.Proofs.Ytmgfaoomdpgbhaa.Print
theorem PeriodRoutes : octroilaw27_PeriodRoutes.Pure := by
  unfold octroilaw27_PeriodRoutes.Pure
  intros; rfl
end Go.Proofs.Ytmgfaoomdpgbhaa.Pure
