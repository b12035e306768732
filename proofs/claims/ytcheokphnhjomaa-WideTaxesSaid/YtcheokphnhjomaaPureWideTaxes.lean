/- WideTaxes. -/
import Derived.Test.YtcheokphnhjomaaX0
import Derived.Test.YtcheokphnhjomaaPureLives
import Derived.Test.YtcheokphnhjomaaRefMD
import Derived.Test.YtcheokphnhjomaaWideC
import Derived.Test.YtcheokphnhjomaaX10
import Derived.Test.YtcheokphnhjomaaX11
import Derived.Test.YtcheokphnhjomaaX2
import Derived.Test.YtcheokphnhjomaaX8
import Derived.Test.YtcheokphnhjomaaX9
import Derived.Test.YtcheokphnhjomaaPureLives
namespace Go.Proofs.Ytcheokphnhjomaa.Pure
open Go.RowKit Go.Proofs.Ytcheokphnhjomaa.Print Go.Proofs.YtcheokphnhjomaaW.PrintWords Go.Proofs.YtcheokphnhjomaaW.PrintLast Go.Proofs.Ytcheokphnhjomaa.Ax
set_option linter.unusedVariables false
set_option linter.unusedSimpArgs false


theorem same_md (a b c : Int) : octroiref02_MulDiv.f a b c = wide_MulDiv.f a b c := rfl
theorem same_tax (a b : Int) : octroiref02_Tax.f a b = wide_Tax.f a b := rfl
theorem same_inside (a b : Int) : octroiref02_Inside.f a b = wide_Inside.f a b := rfl
theorem same_percent (a b : Int) : octroiref02_Percent.f a b = wide_Percent.f a b := rfl
theorem some_tax (a b : Int) : ∃ r, wide_Tax.f a b = some r := by
  unfold wide_Tax.f wide_MulDiv.f
  split
  · exact ⟨_, rfl⟩
  · split <;> exact ⟨_, rfl⟩
theorem some_inside (a b : Int) : ∃ r, wide_Inside.f a b = some r := by
  unfold wide_Inside.f wide_MulDiv.f
  split
  · exact ⟨_, rfl⟩
  · split <;> exact ⟨_, rfl⟩
theorem some_percent (a b : Int) : ∃ r, wide_Percent.f a b = some r := by
  unfold wide_Percent.f wide_MulDiv.f
  split
  · exact ⟨_, rfl⟩
  · split <;> exact ⟨_, rfl⟩
theorem WideTaxes : octroilaw02_WideTaxes.Pure := by
  intro a b n _ _ _
  obtain ⟨r1, h1⟩ := some_tax a b
  obtain ⟨r2, h2⟩ := some_inside a b
  obtain ⟨r3, h3⟩ := some_percent a n
  unfold octroilaw02_WideTaxes.f
  rw [same_tax, same_inside, same_percent, h1, h2, h3]
  simp [wide_lives]

end Go.Proofs.Ytcheokphnhjomaa.Pure
