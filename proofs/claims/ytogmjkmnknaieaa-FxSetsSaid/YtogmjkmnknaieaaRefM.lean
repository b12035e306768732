/- The contracts of the document's numbers, over names. -/
import Derived.Test.YtogmjkmnknaieaaAx21
import Derived.Test.YtogmjkmnknaieaaWideD
import Derived.Test.YtogmjkmnknaieaaX0
import Derived.Test.YtogmjkmnknaieaaAx14
import Derived.Test.YtogmjkmnknaieaaAx4
import Derived.Test.YtogmjkmnknaieaaX5
import Derived.Test.YtogmjkmnknaieaaX6
import Derived.Test.YtogmjkmnknaieaaX8
import Derived.Test.YtogmjkmnknaieaaX9
namespace Go.Proofs.Ytogmjkmnknaieaa.Ax
open Go Go.RowKit Go.Proofs.Ytogmjkmnknaieaa.Print Go.Proofs.YtogmjkmnknaieaaW.PrintWords
set_option linter.unusedVariables false
set_option linter.unusedSimpArgs false
theorem run_opt {γ α : Type} (x : Option γ) (k : γ → Rd α) (h : Hp) : (Rd.opt x k).run h = (match x with | some y => (k y).run h | none => none) := by cases x <;> rfl
theorem may_f (a : Int) : octroiref01_May.f a = some (mayB a) := by
  unfold octroiref01_May.f mayB
  by_cases h1 : a ≥ -4611686018427387904
  · rw [if_pos h1, decide_eq_true (show -4611686018427387904 ≤ a from h1)]; rfl
  · rw [if_neg h1, decide_eq_false (show ¬ -4611686018427387904 ≤ a from h1)]; rfl
def cMayR : Con := fun args _ => match args with
  | [.v (.int .i64 a)] => .ret ⟨.v (.bool (mayB a)), []⟩
  | _ => .fail
theorem cMayR_ok (B) : ConOk Try.prog B 41 cMayR := by
  intro args ρ h w lo out ids hr hrh hfr hfa up
  unfold cMayR at hr
  split at hr
  · cases hr
    refine gives_plain (fn := Try.f41) Try.func41 (by kernel_rfl) (by kernel_rfl) hrh up ?_
    exact (octroiref01_May.calls _ _ w (may_f _)).mono fun e w' h => ⟨h.1, h.2.below⟩
  · cases hr
def cOf (k : Nat) : Con := fun args lo => match args with
  | [.v (.int .i64 a)] => .opt (octroiref01_Of.f k a) fun r => .ret ⟨numS r.1 lo, [(lo, .row 3 [.int .i64] r.2)]⟩
  | _ => .fail
theorem cOf_ok (k) (B) : ConOk Try.prog B 43 (cOf k) := by
  intro args ρ h w lo out ids hr hrh hfr hfa up
  unfold cOf at hr
  split at hr
  · rename_i a
    replace hr := (run_opt _ _ _).symm.trans hr
    cases hf : octroiref01_Of.f k a with
    | none => rw [hf] at hr; cases hr
    | some r =>
      rw [hf] at hr
      cases hr
      exact gives_num (fn := Try.f43) Try.func43 (by kernel_rfl) (by kernel_rfl) hrh hfr up (octroiref01_Of.calls k _ r.1 r.2 w hf)
  · cases hr
theorem arg_row {B : Nat → Prop} {ρ : Rho} {h : Hp} {w : World} {i e : Nat} {l : List Int} (hr : HR B ρ h w) (ho : look h i = some (.row e [.int .i64] l)) (hl : l.length ≤ 9223372036854775807) :
    ∃ A c, den ρ (.all i) = .slice A l.length c ∧ l.length ≤ c ∧ Kd.C (Kd.int .i64) w A l.length l := by
  obtain ⟨A, c, h1, h2, h3⟩ := C_of_row (hr.ok i _ ho) hl
  exact ⟨A, c, h1 ρ i rfl, h2, h3⟩
def numCon (e : Nat) (F : Bool → List Int → Bool → List Int → Option (Bool × List Int)) : Con := fun args lo => match args with
  | [.agg [.v (.bool n0), .all i0], .agg [.v (.bool n1), .all i1]] => rowOf i0 fun l0 => rowOf i1 fun l1 => .opt (F n0 l0 n1 l1) fun r => .ret ⟨numS r.1 lo, [(lo, .row e [.int .i64] r.2)]⟩
  | _ => .fail
theorem numCon_ok {P : Program} {f : FuncId} {fn : Func} {e : Nat} {F : Bool → List Int → Bool → List Int → Option (Bool × List Int)} (hf : P.funcs[f]? = some fn) (hname : (fn.name == "runtime.NumGoroutine") = false) (hbody : fn.body.isSome = true)
    (hc : ∀ n0 A0 c0 l0 n1 A1 c1 l1 r1 r2 (w : World), Kd.C (Kd.int .i64) w A0 l0.length l0 → l0.length ≤ c0 → Kd.C (Kd.int .i64) w A1 l1.length l1 → l1.length ≤ c1 → F n0 l0 n1 l1 = some (r1, r2) →
      Calls P f #[.agg #[.bool n0, .slice A0 l0.length c0], .agg #[.bool n1, .slice A1 l1.length c1]] w fun x w' => ∃ v : Value, x = .returned (.agg #[.bool r1, v]) ∧ Kd.R (Kd.int .i64) e w' w.heap.size (fun _ => True) v r2 ∧ Below w.heap.size w w') (B) :
    ConOk P B f (numCon e F) := by
  intro args ρ h w lo out ids hr hrh hfr hfa up
  unfold numCon at hr
  split at hr
  · rename_i n0 i0 n1 i1
    obtain ⟨e0, l0, ids0, o0, b0, hr⟩ := rowOf_run hr
    obtain ⟨e1, l1, ids1, o1, b1, hr⟩ := rowOf_run hr
    replace hr := (run_opt _ _ _).symm.trans hr
    cases hf' : F n0 l0 n1 l1 with
    | none => rw [hf'] at hr; cases hr
    | some r =>
      obtain ⟨r1, r2⟩ := r
      rw [hf'] at hr
      cases hr
      obtain ⟨A0, c0, d0, g0, q0⟩ := arg_row hrh o0 b0
      obtain ⟨A1, c1, d1, g1, q1⟩ := arg_row hrh o1 b1
      have hargs : (denL ρ [.agg [.v (.bool n0), .all i0], .agg [.v (.bool n1), .all i1]]).toArray = #[.agg #[.bool n0, .slice A0 l0.length c0], .agg #[.bool n1, .slice A1 l1.length c1]] := by
        show (#[Value.agg #[.bool n0, den ρ (.all i0)], Value.agg #[.bool n1, den ρ (.all i1)]] : Array Value) = _
        rw [d0, d1]
      rw [hargs]
      exact gives_num hf hname hbody hrh hfr up (hc _ _ _ _ _ _ _ _ _ _ w q0 g0 q1 g1 hf')
  · cases hr
def cMulR (k : Nat) : Con := numCon 3 (octroiref01_Mul.f k)
theorem cMulR_ok (k) : ∀ B, ConOk Try.prog B 42 (cMulR k) :=
  numCon_ok (fn := Try.f42) Try.func42 (by kernel_rfl) (by kernel_rfl) fun n0 A0 c0 l0 n1 A1 c1 l1 r1 r2 w q0 g0 q1 g1 hf => octroiref01_Mul.calls k n0 A0 c0 l0 n1 A1 c1 l1 r1 r2 w q0 g0 q1 g1 hf
def cAddR (k : Nat) : Con := numCon 3 (octroiref01_Add.f k)
theorem cAddR_ok (k) : ∀ B, ConOk Try.prog B 45 (cAddR k) :=
  numCon_ok (fn := Try.f45) Try.func45 (by kernel_rfl) (by kernel_rfl) fun n0 A0 c0 l0 n1 A1 c1 l1 r1 r2 w q0 g0 q1 g1 hf => octroiref01_Add.calls k n0 A0 c0 l0 n1 A1 c1 l1 r1 r2 w q0 g0 q1 g1 hf
def cHalf (k : Nat) : Con := fun args lo => match args with
  | [.agg [.v (.bool n0), .all i0], .v (.int .i64 c)] => rowOf i0 fun l0 => .opt (octroiref02_half.f k n0 l0 c) fun r => .ret ⟨.v (.int .i64 r), []⟩
  | _ => .fail
theorem cHalf_ok (k) (B) : ConOk Try.prog B 46 (cHalf k) := by
  intro args ρ h w lo out ids hr hrh hfr hfa up
  unfold cHalf at hr
  split at hr
  · rename_i n0 i0 c
    obtain ⟨e0, l0, ids0, o0, b0, hr⟩ := rowOf_run hr
    replace hr := (run_opt _ _ _).symm.trans hr
    cases hf : octroiref02_half.f k n0 l0 c with
    | none => rw [hf] at hr; cases hr
    | some r =>
      rw [hf] at hr
      cases hr
      obtain ⟨A0, c0, d0, g0, r0⟩ := arg_row hrh o0 b0
      have hargs : (denL ρ [.agg [.v (.bool n0), .all i0], .v (.int .i64 c)]).toArray = #[.agg #[.bool n0, .slice A0 l0.length c0], .int .i64 c] := by
        show (#[Value.agg #[.bool n0, den ρ (.all i0)], .int .i64 c] : Array Value) = _
        rw [d0]
      rw [hargs]
      exact gives_plain (fn := Try.f46) Try.func46 (by kernel_rfl) (by kernel_rfl) hrh up (octroiref02_half.calls k n0 A0 c0 l0 c r w r0 g0 hf)
  · cases hr
theorem abs_ev (b : Bool) (A : Option Addr) (n c : Nat) : evFn Try.prog (fun _ => none) cn0 4 Try.f44 [.agg [.v (.bool b), .v (.slice A n c)]] [] 0 K1 = some (.agg [.v (.bool false), .v (.slice A n c)]) := by kernel_rfl
def cAbsV : Con := fun args _ => match args with
  | [.agg [.v (.bool b), .v (.slice A n c)]] => .ret ⟨.agg [.v (.bool false), .v (.slice A n c)], []⟩
  | _ => .fail
theorem cAbsV_ok (B) : ConOk Try.prog B 44 cAbsV := by
  refine con_pure (fn := Try.f44) mixed Try.func44 (by kernel_rfl) rfl (C := fun _ => none) (fun B' g φ h => by cases h) (cn := cn0) (F := 4) (fun B' w => cn0_ok B' w _) ?_ B
  intro args lo h out ids hr
  unfold cAbsV at hr
  split at hr
  · cases hr; exact ⟨rfl, rfl, abs_ev _ _ _ _⟩
  · cases hr
def cAbs : Con := fun args _ => match args with
  | [.agg [.v (.bool b), .all i]] => .ret ⟨.agg [.v (.bool false), .all i], []⟩
  | _ => .fail
theorem cAbs_ok (B) : ConOk Try.prog B 44 cAbs := by
  intro args ρ h w lo out ids hr hrh hfr hfa up
  unfold cAbs at hr
  split at hr
  · rename_i b i
    cases hr
    obtain ⟨A, n, c, hs⟩ : ∃ A n c, den ρ (.all i) = .slice A n c := by
      simp only [den]; split <;> exact ⟨_, _, _, rfl⟩
    have hargs : (denL ρ [.agg [.v (.bool b), .all i]]).toArray = (denL ρ [.agg [.v (.bool b), .v (.slice A n c)]]).toArray := by
      show (#[Value.agg #[.bool b, den ρ (.all i)]] : Array Value) = _
      rw [hs]; rfl
    rw [hargs]
    refine gives_same (fn := Try.f44) Try.func44 (by kernel_rfl) (by kernel_rfl) hrh up ?_
    have := calls_of_con (fn := Try.f44) Try.func44 (by kernel_rfl) rfl cAbsV_ok (args := [.agg [.v (.bool b), .v (.slice A n c)]]) (out := ⟨.agg [.v (.bool false), .v (.slice A n c)], []⟩) (ids := []) rfl rfl rfl ρ w
    refine this.mono fun e w' h => ⟨?_, h.2⟩
    rw [h.1]
    show Ending.returned (.agg #[.bool false, .slice A n c]) = .returned (.agg #[.bool false, den ρ (.all i)])
    rw [hs]
  · cases hr
def CRef (k : Nat) : FuncId → Option Con
  | 41 => some cMayR
  | 43 => some (cOf k)
  | 42 => some (cMulR k)
  | 45 => some (cAddR k)
  | 46 => some (cHalf k)
  | 44 => some cAbs
  | _ => none
theorem CRef_ok (k) (B g φ) (h : CRef k g = some φ) : ConOk Try.prog B g φ := by
  unfold CRef at h
  split at h
  · cases h; exact cMayR_ok B
  · cases h; exact cOf_ok k B
  · cases h; exact cMulR_ok k B
  · cases h; exact cAddR_ok k B
  · cases h; exact cHalf_ok k B
  · cases h; exact cAbs_ok B
  · cases h
end Go.Proofs.Ytogmjkmnknaieaa.Ax
