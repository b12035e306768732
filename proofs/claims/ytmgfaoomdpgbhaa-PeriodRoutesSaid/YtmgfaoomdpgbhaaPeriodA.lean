/- The walks of period.Clock's methods: what they read of a clock. -/
import Derived.Test.YtmgfaoomdpgbhaaOwn1
import Derived.Test.YtmgfaoomdpgbhaaRef04D
import Derived.Test.YtmgfaoomdpgbhaaX0
import Derived.Test.YtmgfaoomdpgbhaaAx14
import Derived.Test.YtmgfaoomdpgbhaaAx4
import Derived.Test.YtmgfaoomdpgbhaaAx8
import Derived.Test.YtmgfaoomdpgbhaaOwn1
import Derived.Test.YtmgfaoomdpgbhaaRef04B
import Derived.Test.YtmgfaoomdpgbhaaRef04C
import Derived.Test.YtmgfaoomdpgbhaaRowA
import Derived.Test.YtmgfaoomdpgbhaaX4
import Derived.Test.YtmgfaoomdpgbhaaX5
namespace Go.Proofs.Ytmgfaoomdpgbhaa.Ax
open Go Go.RowKit Go.Proofs.Ytmgfaoomdpgbhaa.Print
set_option linter.unusedVariables false
set_option linter.unusedSimpArgs false

theorem mixed : Try.prog.follows .mixedOrders = true := by kernel_rfl
def cn0 : Nat → St → Option St := fun _ σ => some σ
theorem cn0_ok (B' : Nat → Prop) (w : Base) (n : Nat) : CnOk cn0 B' w n := fun k σ σ' h => by cases h; exact ⟨fun h => h, fun ρ a w hR => ⟨ρ, hR⟩⟩
def rho0 : Rho := fun _ => ⟨0, 0, 0, 0, false⟩

/-! civil's functions. -/
def per3 (x : Int × Int × Int × Int) : SV := .agg [.v (.int .i64 x.1), .v (.int .i64 x.2.1), .v (.int .i64 x.2.2.1)]
def cGood : Con := fun args _ => match args with
  | [.agg [.v (.int .i64 k), .v (.int .i64 y), .v (.int .i64 i)]] => .ret ⟨.v (.bool (goodB k y i)), []⟩
  | _ => .fail
theorem cGood_ok : ∀ B, ConOk Try.prog B 41 cGood := by
  intro B args ρ h w lo out ids hr hrh hfr hfa up
  unfold cGood at hr
  split at hr
  · rename_i k y i
    cases hr
    exact gives_same (s := .v (.bool (goodB k y i))) (fn := Try.f41) Try.func41 (by kernel_rfl) (by kernel_rfl) hrh up (civil_Good.calls k y i _ w (pro_good k y i))
  · cases hr
def cOfC : Con := fun args _ => match args with
  | [.v (.int .i64 n), .v (.int .i64 kd)] => .ret ⟨.tup [.agg [.v (.int .i64 (ofV n kd).1), .v (.int .i64 (ofV n kd).2.1), .v (.int .i64 (ofV n kd).2.2.1)], .v (.int .i64 (ofV n kd).2.2.2)], []⟩
  | _ => .fail
theorem cOfC_ok : ∀ B, ConOk Try.prog B 28 cOfC := by
  intro B args ρ h w lo out ids hr hrh hfr hfa up
  unfold cOfC at hr
  split at hr
  · rename_i n kd
    cases hr
    exact gives_same (s := .tup [.agg [.v (.int .i64 (ofV n kd).1), .v (.int .i64 (ofV n kd).2.1), .v (.int .i64 (ofV n kd).2.2.1)], .v (.int .i64 (ofV n kd).2.2.2)]) (fn := Try.f28) Try.func28 (by kernel_rfl) (by kernel_rfl) hrh up (civil_Of.calls n kd _ _ _ _ w (pro_of n kd))
  · cases hr
def rngB (b : Int) : Bool := decide (-9223372036854775808 ≤ b) && decide (b ≤ 9223372036854775807)
theorem rngB_iff (b : Int) : rngB b = true ↔ -9223372036854775808 ≤ b ∧ b ≤ 9223372036854775807 := by simp [rngB]
def cNext : Con := fun args _ => match args with
  | [.agg [.v (.int .i64 k), .v (.int .i64 y), .v (.int .i64 i)], .v (.int .i64 b)] => .br (rngB b) (.ret ⟨.tup [.agg [.v (.int .i64 (nextV k y i b).1), .v (.int .i64 (nextV k y i b).2.1), .v (.int .i64 (nextV k y i b).2.2.1)], .v (.int .i64 (nextV k y i b).2.2.2)], []⟩) .fail
  | _ => .fail
theorem cNext_ok : ∀ B, ConOk Try.prog B 43 cNext := by
  intro B args ρ h w lo out ids hr hrh hfr hfa up
  unfold cNext at hr
  split at hr
  · rename_i k y i b
    obtain ⟨hb, hr⟩ := br_run (h := h) hr
    cases hr
    exact gives_same (s := .tup [.agg [.v (.int .i64 (nextV k y i b).1), .v (.int .i64 (nextV k y i b).2.1), .v (.int .i64 (nextV k y i b).2.2.1)], .v (.int .i64 (nextV k y i b).2.2.2)]) (fn := Try.f43) Try.func43 (by kernel_rfl) (by kernel_rfl) hrh up (civil_Next.calls k y i b _ _ _ _ w (pro_next k y i b ((rngB_iff b).1 hb)))
  · cases hr

/-! A clock: its first period's kind, year, place; how many are closed, how many are filed. -/
def clkC (k y i a b : Int) : List SV := [.v (.int .i64 k), .v (.int .i64 y), .v (.int .i64 i), .v (.int .i64 a), .v (.int .i64 b)]
def clkR (id : Nat) (φ : Int → Int → Int → Int → Int → Rd Out) : Rd Out := .obj id fun o => match o with
  | .cells 58 [.v (.int .i64 k), .v (.int .i64 y), .v (.int .i64 i), .v (.int .i64 a), .v (.int .i64 b)] => φ k y i a b
  | .ro 58 [.v (.int .i64 k), .v (.int .i64 y), .v (.int .i64 i), .v (.int .i64 a), .v (.int .i64 b)] => φ k y i a b
  | _ => .fail
theorem clkR_run {id : Nat} {φ : Int → Int → Int → Int → Int → Rd Out} {h : Hp} {out : Out} {ids : List Nat} (hr : (clkR id φ).run h = some (out, ids)) :
    ∃ k y i a b o ids', look h id = some o ∧ (o = .cells 58 (clkC k y i a b) ∨ o = .ro 58 (clkC k y i a b)) ∧ (φ k y i a b).run h = some (out, ids') := by
  unfold clkR at hr
  obtain ⟨o, ids', ho, hr⟩ := obj_run hr
  split at hr
  · exact ⟨_, _, _, _, _, _, ids', ho, .inl rfl, hr⟩
  · exact ⟨_, _, _, _, _, _, ids', ho, .inr rfl, hr⟩
  · cases hr
def clkW (id : Nat) (φ : Int → Int → Int → Int → Int → Rd Out) : Rd Out := .obj id fun o => match o with
  | .cells 58 [.v (.int .i64 k), .v (.int .i64 y), .v (.int .i64 i), .v (.int .i64 a), .v (.int .i64 b)] => φ k y i a b
  | _ => .fail
theorem clkW_run {id : Nat} {φ : Int → Int → Int → Int → Int → Rd Out} {h : Hp} {out : Out} {ids : List Nat} (hr : (clkW id φ).run h = some (out, ids)) :
    ∃ k y i a b ids', look h id = some (.cells 58 (clkC k y i a b)) ∧ (φ k y i a b).run h = some (out, ids') := by
  unfold clkW at hr
  obtain ⟨o, ids', ho, hr⟩ := obj_run hr
  split at hr
  · exact ⟨_, _, _, _, _, ids', ho, hr⟩
  · cases hr
def C0 : FuncId → Option Con := fun _ => none
theorem C0_ok : ∀ B' g φ, C0 g = some φ → ConOk Try.prog B' g φ := fun _ _ _ h => by cases h

/-! none -/
def noneB (k y i : Int) : Bool := k == 0 && (y == 0 && (i == 0 && true))
def cNone : Con := fun args _ => match args with
  | [.v (.pointer none)] => .ret ⟨.v (.bool true), []⟩
  | [.ptr id 0] => clkR id fun k y i a b => .ret ⟨.v (.bool (noneB k y i)), []⟩
  | _ => .fail
theorem none_nil : evFn Try.prog C0 cn0 4 Try.f30 [.v (.pointer none)] [] 0 K1 = some (.v (.bool true)) := by kernel_rfl
theorem none_ev (k y i a b : Int) : evFn Try.prog C0 cn0 4 Try.f30 [.ptr 0 0] [(0, .ro 58 (clkC k y i a b))] 1 K1 = some (.v (.bool (noneB k y i))) := by kernel_rfl
theorem cNone_ok (B) : ConOk Try.prog B 30 cNone := by
  intro args ρ h w lo out ids hr hrh hfr hfa up
  unfold cNone at hr
  split at hr
  · cases hr
    have := con_reads (B := B) mixed Try.func30 (by kernel_rfl) rfl C0_ok (fun B' w => cn0_ok B' w _) [.v (.pointer none)] (fun i => i) [] 0 _ K1_spec none_nil ρ h w lo hrh up rfl (fun i oc hi => by cases hi) (fun i oc hi => by cases hi)
    exact this
  · rename_i id
    obtain ⟨k, y, i, a, b, o, ids', ho, hk, hr⟩ := clkR_run hr
    cases hr
    exact con_ro1 mixed Try.func30 (by kernel_rfl) (by kernel_rfl) C0_ok (fun B' w => cn0_ok B' w _) rfl rfl (none_ev k y i a b) hrh up ho hk
  · cases hr

/-! each -/
def eachC (k : Int) : Int := bif k == 1 then 12 else 4
def cEach : Con := fun args _ => match args with
  | [.ptr id 0] => clkR id fun k y i a b => .ret ⟨.v (.int .i64 (eachC k)), []⟩
  | _ => .fail
theorem each_tree (k y i a b : Int) : evFn Try.prog C0 cn0 4 Try.f42 [.ptr 0 0] [(0, .ro 58 (clkC k y i a b))] 1 K1 = sel (k == 1) (some (.v (.int .i64 12))) (some (.v (.int .i64 4))) := by kernel_rfl
theorem cEach_ok (B) : ConOk Try.prog B 42 cEach := by
  intro args ρ h w lo out ids hr hrh hfr hfa up
  unfold cEach at hr
  split at hr
  · rename_i id
    obtain ⟨k, y, i, a, b, o, ids', ho, hk, hr⟩ := clkR_run hr
    cases hr
    refine con_ro1 (F := 4) mixed Try.func42 (by kernel_rfl) (by kernel_rfl) C0_ok (fun B' w => cn0_ok B' w _) rfl rfl (r := .v (.int .i64 (eachC k))) ?_ hrh up ho hk
    rw [each_tree]
    unfold eachC
    cases (k == 1) <;> rfl
  · cases hr

def CClk : FuncId → Option Con
  | 41 => some cGood
  | 28 => some cOfC
  | 43 => some cNext
  | 30 => some cNone
  | 42 => some cEach
  | _ => none
theorem CClk_ok : ∀ B' g φ, CClk g = some φ → ConOk Try.prog B' g φ := by
  intro B' g φ h
  unfold CClk at h
  split at h
  · cases h; exact cGood_ok B'
  · cases h; exact cOfC_ok B'
  · cases h; exact cNext_ok B'
  · cases h; exact cNone_ok B'
  · cases h; exact cEach_ok B'
  · cases h

end Go.Proofs.Ytmgfaoomdpgbhaa.Ax
