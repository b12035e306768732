/- A step of the period's laws, as the rows have it. -/
import Derived.Test.YtmgfaoomdpgbhaaPeriodC
namespace Go.Proofs.Ytmgfaoomdpgbhaa.Print
open Go Go.RowKit Go.Proofs.YtmgfaoomdpgbhaaW.PrintWords Go.Proofs.Ytmgfaoomdpgbhaa.Ax
set_option linter.unusedVariables false
set_option linter.unusedSimpArgs false

structure S30 where
  f0 : Int
  f1 : S24
def k30 : Kd S30 := Kd.iso (Kd.pair (Kd.int .i64) k24) (fun x : S30 => (x.f0, x.f1))
def stepT (x : S30) : TT [.int .i64, .int .i64, .int .i64, .int .i64] := (x.f0, x.f1.f0, x.f1.f1, x.f1.f2)
theorem stepT_enc : ∀ (w : World) (x : S30) (c : List Value), k30.K w x c → c = enc [.int .i64, .int .i64, .int .i64, .int .i64] (stepT x) := by
  intro w x c h
  obtain ⟨_, _, rfl, rfl, h⟩ := h
  have := k24_open h
  subst this
  rfl
end Go.Proofs.Ytmgfaoomdpgbhaa.Print
