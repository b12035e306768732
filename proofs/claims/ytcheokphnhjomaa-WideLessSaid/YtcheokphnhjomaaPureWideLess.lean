/- WideLess. -/
import Derived.Test.YtcheokphnhjomaaX0
import Derived.Test.YtcheokphnhjomaaPureLives
import Derived.Test.YtcheokphnhjomaaRef02L
import Derived.Test.YtcheokphnhjomaaWideE
import Derived.Test.YtcheokphnhjomaaX15
import Derived.Test.YtcheokphnhjomaaSayWideLess
import Derived.Test.YtcheokphnhjomaaPureLives
import Derived.Test.YtcheokphnhjomaaRef02L
namespace Go.Proofs.Ytcheokphnhjomaa.Pure
open Go.RowKit Go.Proofs.Ytcheokphnhjomaa.Print Go.Proofs.YtcheokphnhjomaaW.PrintWords Go.Proofs.YtcheokphnhjomaaW.PrintLast Go.Proofs.Ytcheokphnhjomaa.Ax
set_option linter.unusedVariables false
set_option linter.unusedSimpArgs false

theorem WideLess : octroilaw02_WideLess.Pure := by
  intro a b c d _ _ _ _
  obtain ⟨k, hk⟩ := refLess_ev a b c d
  refine ⟨k, ?_⟩
  unfold octroilaw02_WideLess.f wide_Less.f
  rw [hk]
  simp [wide_lives]

end Go.Proofs.Ytcheokphnhjomaa.Pure
