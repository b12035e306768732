/- The chapter's examples hold. -/
import Derived.Test.YtfmihohfkphamaaX0
import Derived.Test.YtfmihohfkphamaaX3
import Derived.Test.YtfmihohfkphamaaTaxB
namespace Go.Proofs.Ytfmihohfkphamaa.Pure
open Go.RowKit Go.Proofs.Ytfmihohfkphamaa.Print Go.Proofs.YtfmihohfkphamaaW.PrintWords Go.Proofs.YtfmihohfkphamaaW.PrintLast
theorem tax_lives : octroilaw21_lives.f 1 = some true := by kernel_rfl
theorem tax_lives_ev (k : Nat) : octroilaw21_lives.f (k + 1) = some true := by
  induction k with
  | zero => exact tax_lives
  | succ k ih => exact octroilaw21_lives.mono _ _ ih
end Go.Proofs.Ytfmihohfkphamaa.Pure
