/- The walk of margin.Of: a method's value that is called. -/
import Derived.Test.YtdhmhdhfgojofaaTaxB
namespace Go.Proofs.Ytdhmhdhfgojofaa.Ax
open Go Go.RowKit
set_option linter.unusedVariables false
set_option linter.unusedSimpArgs false

def dealB (p c : Int) : Bool := (decide (0 ≤ p) && mayB p) && (decide (0 ≤ c) && mayB c)
theorem dealB_iff (p c : Int) : dealB p c = true ↔ (0 ≤ p ∧ p ≤ 4611686018427387904) ∧ (0 ≤ c ∧ c ≤ 4611686018427387904) := by
  simp only [dealB, Bool.and_eq_true, decide_eq_true_eq, mayB_iff]; omega
theorem deal_tree (p c : Int) : evFn Try.prog CMay cn0 4 Try.f12 [.agg [.v (.int .i64 p), .v (.int .i64 c)]] [] 0 K1 =
    sel (decide (0 ≤ p)) (sel (mayB p) (sel (decide (0 ≤ c)) (some (.v (.bool (mayB c)))) (some (.v (.bool false)))) (some (.v (.bool false)))) (some (.v (.bool false))) := by kernel_rfl
def cDeal : Con := fun args _ => match args with
  | [.agg [.v (.int .i64 p), .v (.int .i64 c)]] => .ret ⟨.v (.bool (dealB p c)), []⟩
  | _ => .fail
theorem cDeal_ok : ∀ B, ConOk Try.prog B 12 cDeal := con_pure mixed Try.func12 (by kernel_rfl) rfl CMay_ok (fun B' w => cn0_ok B' w _) (by
  intro args lo h out ids hr
  unfold cDeal at hr
  split at hr
  · rename_i p c
    cases hr
    refine ⟨rfl, rfl, ?_⟩
    rw [deal_tree]
    unfold dealB
    cases decide (0 ≤ p) <;> cases mayB p <;> cases decide (0 ≤ c) <;> cases mayB c <;> rfl
  · cases hr)
theorem rate_tree (b : Int) : evFn Try.prog C0 cn0 4 Try.f13 [.v (.int .i64 b)] [] 0 K1 =
    sel (decide (0 ≤ b)) (some (.v (.bool (decide (b ≤ 10000))))) (some (.v (.bool false))) := by kernel_rfl
def cRate : Con := fun args _ => match args with
  | [.v (.int .i64 b)] => .ret ⟨.v (.bool (bpB b)), []⟩
  | _ => .fail
theorem cRate_ok : ∀ B, ConOk Try.prog B 13 cRate := con_pure mixed Try.func13 (by kernel_rfl) rfl C0_ok (fun B' w => cn0_ok B' w _) (by
  intro args lo h out ids hr
  unfold cRate at hr
  split at hr
  · rename_i b
    cases hr
    refine ⟨rfl, rfl, ?_⟩
    rw [rate_tree]
    unfold bpB
    cases decide (0 ≤ b) <;> rfl
  · cases hr)
theorem earned_tree (p c : Int) : evFn Try.prog C0 cn0 4 Try.f14 [.agg [.v (.int .i64 p), .v (.int .i64 c)]] [] 0 K1 =
    some (.v (.int .i64 (mx (IntKind.i64.wrap (p - c)) 0))) := by kernel_rfl
def cEarned : Con := fun args _ => match args with
  | [.agg [.v (.int .i64 p), .v (.int .i64 c)]] => .ret ⟨.v (.int .i64 (mx (IntKind.i64.wrap (p - c)) 0)), []⟩
  | _ => .fail
theorem cEarned_ok : ∀ B, ConOk Try.prog B 14 cEarned := con_pure mixed Try.func14 (by kernel_rfl) rfl C0_ok (fun B' w => cn0_ok B' w _) (by
  intro args lo h out ids hr
  unfold cEarned at hr
  split at hr
  · rename_i p c
    cases hr
    exact ⟨rfl, rfl, earned_tree p c⟩
  · cases hr)
def CMarg : FuncId → Option Con
  | 12 => some cDeal
  | 13 => some cRate
  | 14 => some cEarned
  | 15 => some cPart
  | _ => none
theorem CMarg_ok : ∀ B' g φ, CMarg g = some φ → ConOk Try.prog B' g φ := by
  intro B' g φ h
  unfold CMarg at h
  split at h
  · cases h; exact cDeal_ok B'
  · cases h; exact cRate_ok B'
  · cases h; exact cEarned_ok B'
  · cases h; exact cPart_ok B'
  · cases h
def marginT (x : Int × Int × Int) : Option SV := some (int3 x.1 x.2.1 x.2.2)
theorem margin_tree (p c b : Int) : evFn Try.prog CMarg cn0 4 Try.f6 [.v (.int .i64 p), .v (.int .i64 c), .v (.int .i64 b)] [] 0 K1 =
    sel (!dealB p c) (some (int3 0 0 2)) (sel (!bpB b) (some (int3 0 0 2)) (marginT (partV (mx (IntKind.i64.wrap (p - c)) 0) true b))) := by kernel_rfl
/-- What is earned, and the answer about a deal. -/
def earnV (p c : Int) : Int := if c < p then p - c else 0
def marginV (p c b : Int) : Int × Int × Int := if dealB p c = true ∧ bpB b = true then partV (earnV p c) true b else (0, 0, 2)
theorem earn_eq {p c : Int} (h : dealB p c = true) : mx (IntKind.i64.wrap (p - c)) 0 = earnV p c := by
  rw [dealB_iff] at h
  rw [wrapI, wrap64_id (by omega) (by omega)]
  unfold mx earnV
  split <;> split <;> omega
theorem margin_ev (p c b : Int) : evFn Try.prog CMarg cn0 4 Try.f6 [.v (.int .i64 p), .v (.int .i64 c), .v (.int .i64 b)] [] 0 K1 = some (.tup [.v (.int .i64 (marginV p c b).1), .v (.int .i64 (marginV p c b).2.1), .v (.int .i64 (marginV p c b).2.2)]) := by
  rw [margin_tree]
  unfold marginV
  cases hd : dealB p c with
  | false => rfl
  | true =>
    cases hb : bpB b with
    | false => rfl
    | true => rw [earn_eq hd, if_pos ⟨rfl, rfl⟩]; rfl
def cMargin : Con := fun args _ => match args with
  | [.v (.int .i64 p), .v (.int .i64 c), .v (.int .i64 b)] => .ret ⟨.tup [.v (.int .i64 (marginV p c b).1), .v (.int .i64 (marginV p c b).2.1), .v (.int .i64 (marginV p c b).2.2)], []⟩
  | _ => .fail
theorem cMargin_ok : ∀ B, ConOk Try.prog B 6 cMargin := con_pure mixed Try.func6 (by kernel_rfl) rfl CMarg_ok (fun B' w => cn0_ok B' w _) (by
  intro args lo h out ids hr
  unfold cMargin at hr
  split at hr
  · rename_i p c b
    cases hr
    exact ⟨rfl, rfl, margin_ev p c b⟩
  · cases hr)

end Go.Proofs.Ytdhmhdhfgojofaa.Ax
namespace Go.Proofs.Ytdhmhdhfgojofaa.Print
open Go Go.RowKit Go.Proofs.Ytdhmhdhfgojofaa.Ax
def margin_Of.f (p c b : Int) : Option (Int × Int × Int) := some (marginV p c b)
theorem margin_Of.calls (p c b r1 r2 r3 : Int) (w : World) (h : margin_Of.f p c b = some (r1, r2, r3)) :
    Calls Try.prog 6 #[.int .i64 p, .int .i64 c, .int .i64 b] w fun e w' => e = .returned (.tuple #[.int .i64 r1, .int .i64 r2, .int .i64 r3]) ∧ Below w.heap.size w w' := by
  have hv : marginV p c b = (r1, r2, r3) := Option.some.inj h
  have := calls_of_con Try.func6 (by kernel_rfl) rfl cMargin_ok (args := [.v (.int .i64 p), .v (.int .i64 c), .v (.int .i64 b)]) (out := ⟨.tup [.v (.int .i64 (marginV p c b).1), .v (.int .i64 (marginV p c b).2.1), .v (.int .i64 (marginV p c b).2.2)], []⟩) (ids := []) rfl rfl rfl rho0 w
  rw [hv] at this
  exact this
end Go.Proofs.Ytdhmhdhfgojofaa.Print
