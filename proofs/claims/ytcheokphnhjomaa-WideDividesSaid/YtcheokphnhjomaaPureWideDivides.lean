/- WideDivides. -/
import Derived.Test.YtcheokphnhjomaaX0
import Derived.Test.YtcheokphnhjomaaPureLives
import Derived.Test.YtcheokphnhjomaaRefCE
import Derived.Test.YtcheokphnhjomaaRefMD
import Derived.Test.YtcheokphnhjomaaWideC
import Derived.Test.YtcheokphnhjomaaX13
import Derived.Test.YtcheokphnhjomaaPureLives
namespace Go.Proofs.Ytcheokphnhjomaa.Pure
open Go.RowKit Go.Proofs.Ytcheokphnhjomaa.Print Go.Proofs.YtcheokphnhjomaaW.PrintWords Go.Proofs.YtcheokphnhjomaaW.PrintLast Go.Proofs.Ytcheokphnhjomaa.Ax
set_option linter.unusedVariables false
set_option linter.unusedSimpArgs false

theorem WideDivides : octroilaw02_WideDivides.Pure := by
  intro a b c _ _ _
  unfold octroilaw02_WideDivides.f wide_MulDiv.f octroiref02_MulDiv.f wide_Ceil.f octroiref02_Ceil.f
  simp [wide_lives]

end Go.Proofs.Ytcheokphnhjomaa.Pure
