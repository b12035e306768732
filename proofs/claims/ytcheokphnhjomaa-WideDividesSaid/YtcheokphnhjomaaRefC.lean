/- The contracts of the document's great and Cmp, over names. -/
import Derived.Test.YtcheokphnhjomaaRefM
import Derived.Test.YtcheokphnhjomaaX0
import Derived.Test.YtcheokphnhjomaaAx14
import Derived.Test.YtcheokphnhjomaaAx4
import Derived.Test.YtcheokphnhjomaaRefM
import Derived.Test.YtcheokphnhjomaaRowA
import Derived.Test.YtcheokphnhjomaaX12
import Derived.Test.YtcheokphnhjomaaX6
namespace Go.Proofs.Ytcheokphnhjomaa.Ax
open Go Go.RowKit Go.Proofs.Ytcheokphnhjomaa.Print Go.Proofs.YtcheokphnhjomaaW.PrintWords
set_option linter.unusedVariables false
set_option linter.unusedSimpArgs false

/-- A callee of a number and a plain one. -/
def numOne (F : Bool → List Int → Int → Option Int) : Con := fun args lo => match args with
  | [.agg [.v (.bool n0), .all i0], .v (.int .i64 c)] => rowOf i0 fun l0 => .opt (F n0 l0 c) fun r => .ret ⟨.v (.int .i64 r), []⟩
  | _ => .fail
theorem numOne_ok {P : Program} {f : FuncId} {fn : Func} {F : Bool → List Int → Int → Option Int} (hf : P.funcs[f]? = some fn) (hname : (fn.name == "runtime.NumGoroutine") = false) (hbody : fn.body.isSome = true)
    (hc : ∀ n0 A0 c0 l0 c r (w : World), Kd.C (Kd.int .i64) w A0 l0.length l0 → l0.length ≤ c0 → F n0 l0 c = some r → Calls P f #[.agg #[.bool n0, .slice A0 l0.length c0], .int .i64 c] w fun x w' => x = .returned (.int .i64 r) ∧ Below w.heap.size w w') (B) :
    ConOk P B f (numOne F) := by
  intro args ρ h w lo out ids hr hrh hfr hfa up
  unfold numOne at hr
  split at hr
  · rename_i n0 i0 c
    obtain ⟨e0, l0, ids0, o0, b0, hr⟩ := rowOf_run hr
    replace hr := (run_opt _ _ _).symm.trans hr
    cases hf' : F n0 l0 c with
    | none => rw [hf'] at hr; cases hr
    | some r =>
      rw [hf'] at hr
      cases hr
      obtain ⟨A0, c0, d0, g0, q0⟩ := arg_row hrh o0 b0
      have hargs : (denL ρ [.agg [.v (.bool n0), .all i0], .v (.int .i64 c)]).toArray = #[.agg #[.bool n0, .slice A0 l0.length c0], .int .i64 c] := by
        show (#[Value.agg #[.bool n0, den ρ (.all i0)], .int .i64 c] : Array Value) = _
        rw [d0]
      rw [hargs]
      exact gives_plain hf hname hbody hrh up (hc _ _ _ _ _ _ w q0 g0 hf')
  · cases hr
/-- A callee of two numbers that tells a plain one. -/
def numTwo (F : Bool → List Int → Bool → List Int → Option Int) : Con := fun args lo => match args with
  | [.agg [.v (.bool n0), .all i0], .agg [.v (.bool n1), .all i1]] => rowOf i0 fun l0 => rowOf i1 fun l1 => .opt (F n0 l0 n1 l1) fun r => .ret ⟨.v (.int .i64 r), []⟩
  | _ => .fail
theorem numTwo_ok {P : Program} {f : FuncId} {fn : Func} {F : Bool → List Int → Bool → List Int → Option Int} (hf : P.funcs[f]? = some fn) (hname : (fn.name == "runtime.NumGoroutine") = false) (hbody : fn.body.isSome = true)
    (hc : ∀ n0 A0 c0 l0 n1 A1 c1 l1 r (w : World), Kd.C (Kd.int .i64) w A0 l0.length l0 → l0.length ≤ c0 → Kd.C (Kd.int .i64) w A1 l1.length l1 → l1.length ≤ c1 → F n0 l0 n1 l1 = some r →
      Calls P f #[.agg #[.bool n0, .slice A0 l0.length c0], .agg #[.bool n1, .slice A1 l1.length c1]] w fun x w' => x = .returned (.int .i64 r) ∧ Below w.heap.size w w') (B) :
    ConOk P B f (numTwo F) := by
  intro args ρ h w lo out ids hr hrh hfr hfa up
  unfold numTwo at hr
  split at hr
  · rename_i n0 i0 n1 i1
    obtain ⟨e0, l0, ids0, o0, b0, hr⟩ := rowOf_run hr
    obtain ⟨e1, l1, ids1, o1, b1, hr⟩ := rowOf_run hr
    replace hr := (run_opt _ _ _).symm.trans hr
    cases hf' : F n0 l0 n1 l1 with
    | none => rw [hf'] at hr; cases hr
    | some r =>
      rw [hf'] at hr
      cases hr
      obtain ⟨A0, c0, d0, g0, q0⟩ := arg_row hrh o0 b0
      obtain ⟨A1, c1, d1, g1, q1⟩ := arg_row hrh o1 b1
      have hargs : (denL ρ [.agg [.v (.bool n0), .all i0], .agg [.v (.bool n1), .all i1]]).toArray = #[.agg #[.bool n0, .slice A0 l0.length c0], .agg #[.bool n1, .slice A1 l1.length c1]] := by
        show (#[Value.agg #[.bool n0, den ρ (.all i0)], Value.agg #[.bool n1, den ρ (.all i1)]] : Array Value) = _
        rw [d0, d1]
      rw [hargs]
      exact gives_plain hf hname hbody hrh up (hc _ _ _ _ _ _ _ _ _ w q0 g0 q1 g1 hf')
  · cases hr
def CRefC (k : Nat) : FuncId → Option Con
  | 28 => some cMayR
  | 30 => some (cOf k)
  | 29 => some (cMulR k)
  | 35 => some (numTwo (octroiref01_Cmp.f k))
  | 34 => some (numOne (octroiref02_great.f k))
  | _ => none
theorem CRefC_ok (k) (B g φ) (h : CRefC k g = some φ) : ConOk Try.prog B g φ := by
  unfold CRefC at h
  split at h
  · cases h; exact cMayR_ok B
  · cases h; exact cOf_ok k B
  · cases h; exact cMulR_ok k B
  · cases h; exact numTwo_ok (fn := Try.f35) Try.func35 (by kernel_rfl) (by kernel_rfl) (fun n0 A0 c0 l0 n1 A1 c1 l1 r w q0 g0 q1 g1 hf => octroiref01_Cmp.calls k n0 A0 c0 l0 n1 A1 c1 l1 r w q0 g0 q1 g1 hf) B
  · cases h; exact numOne_ok (fn := Try.f34) Try.func34 (by kernel_rfl) (by kernel_rfl) (fun n0 A0 c0 l0 c r w q0 g0 hf => octroiref02_great.calls k n0 A0 c0 l0 c r w q0 g0 hf) B
  · cases h

end Go.Proofs.Ytcheokphnhjomaa.Ax
