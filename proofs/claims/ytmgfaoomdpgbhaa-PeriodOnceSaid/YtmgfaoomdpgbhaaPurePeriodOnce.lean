/- PeriodOnce. -/
import Derived.Test.YtmgfaoomdpgbhaaSayPeriodOnce
namespace Go.Proofs.Ytmgfaoomdpgbhaa.Pure
open Go.RowKit Go.Proofs.Ytmgfaoomdpgbhaa.Print
theorem PeriodOnce : octroilaw27_PeriodOnce.Pure := by
  unfold octroilaw27_PeriodOnce.Pure
  intros; rfl
end Go.Proofs.Ytmgfaoomdpgbhaa.Pure
