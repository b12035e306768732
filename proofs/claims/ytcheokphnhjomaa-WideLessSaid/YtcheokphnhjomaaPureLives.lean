/- The chapter's examples hold. -/
import Derived.Test.YtcheokphnhjomaaX0
import Derived.Test.YtcheokphnhjomaaX2
import Derived.Test.YtcheokphnhjomaaWideD
namespace Go.Proofs.Ytcheokphnhjomaa.Pure
open Go.RowKit Go.Proofs.Ytcheokphnhjomaa.Print Go.Proofs.YtcheokphnhjomaaW.PrintWords Go.Proofs.YtcheokphnhjomaaW.PrintLast Go.Proofs.Ytcheokphnhjomaa.Ax
theorem wide_lives : octroilaw02_lives.f = some true := by kernel_rfl
end Go.Proofs.Ytcheokphnhjomaa.Pure
