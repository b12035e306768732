/- A clone, what is filed: of a clock that no call made. -/
import Derived.Test.YtmgfaoomdpgbhaaPeriodB
namespace Go.Proofs.Ytmgfaoomdpgbhaa.Ax
open Go Go.RowKit Go.Proofs.Ytmgfaoomdpgbhaa.Print
set_option linter.unusedVariables false
set_option linter.unusedSimpArgs false

def cClone : Con := fun args lo => match args with
  | [.v (.pointer none)] => .ret ⟨.v (.pointer none), []⟩
  | _ => .fail
theorem clone_nil : evFn Try.prog C0 cn0 4 Try.f21 [.v (.pointer none)] [] 0 K1 = some (.v (.pointer none)) := by kernel_rfl
theorem cClone_ok (B) : ConOk Try.prog B 21 cClone := by
  intro args ρ h w lo out ids hr hrh hfr hfa up
  unfold cClone at hr
  split at hr
  · cases hr
    exact con_nil Try.func21 (by kernel_rfl) (by kernel_rfl) C0_ok rfl clone_nil hrh up
  · cases hr
def cFiled : Con := fun args _ => match args with
  | [.v (.pointer none)] => .ret ⟨.v (.slice none 0 0), []⟩
  | [.ptr id 0] => clkR id fun k y i a b => .br (noneB k y i) (.ret ⟨.v (.slice none 0 0), []⟩) .fail
  | _ => .fail
theorem filed_nil : evFn Try.prog CPer cn0 4 Try.f26 [.v (.pointer none)] [] 0 K1 = some (.v (.slice none 0 0)) := by kernel_rfl
theorem filed_none (a b : Int) : evFn Try.prog CPer cn0 4 Try.f26 [.ptr 0 0] [(0, .ro 58 (clkC 0 0 0 a b))] 1 K1 = some (.v (.slice none 0 0)) := by kernel_rfl
theorem cFiled_ok (B) : ConOk Try.prog B 26 cFiled := by
  intro args ρ h w lo out ids hr hrh hfr hfa up
  unfold cFiled at hr
  split at hr
  · cases hr
    exact con_nil Try.func26 (by kernel_rfl) (by kernel_rfl) CPer_ok rfl filed_nil hrh up
  · rename_i id
    obtain ⟨k, y, i, a, b, o, ids', ho, hk, hr⟩ := clkR_run hr
    obtain ⟨hb, hr⟩ := br_run (h := h) hr
    cases hr
    simp only [noneB, Bool.and_true, Bool.and_eq_true, beq_iff_eq] at hb
    obtain ⟨rfl, rfl, rfl⟩ := hb
    exact con_ro1 (F := 4) mixed Try.func26 (by kernel_rfl) (by kernel_rfl) CPer_ok (fun B' w => cn0_ok B' w _) rfl rfl (filed_none a b) hrh up ho hk
  · cases hr
def CLaw : FuncId → Option Con
  | 7 => some cLives
  | 21 => some cClone
  | 26 => some cFiled
  | g => CPer g
theorem CLaw_ok : ∀ B' g φ, CLaw g = some φ → ConOk Try.prog B' g φ := by
  intro B' g φ h
  unfold CLaw at h
  split at h
  · cases h; exact cLives_ok B'
  · cases h; exact cClone_ok B'
  · cases h; exact cFiled_ok B'
  · exact CPer_ok B' _ φ h

end Go.Proofs.Ytmgfaoomdpgbhaa.Ax
