/- AX 14: contracts, the everyday forms. -/
import Derived.Test.YtcheokphnhjomaaAx13
namespace Go.Proofs.Ytcheokphnhjomaa.Ax
open Go Go.RowKit
set_option linter.unusedVariables false
set_option linter.unusedSimpArgs false

mutual
theorem ren_id : ∀ s : SV, ren (fun i => i) s = s
  | .v _ | .ptr _ _ | .elt _ _ _ _ | .slc _ _ _ _ _ | .all _ | .map _ => rfl
  | .fn _ fi ca => by simp only [ren]; rw [renL_id fi, renL_id ca]
  | .agg l => by simp only [ren]; rw [renL_id l]
  | .tup l => by simp only [ren]; rw [renL_id l]
theorem renL_id : ∀ l : List SV, renL (fun i => i) l = l
  | [] => rfl
  | s :: l => by simp only [renL]; rw [ren_id s, renL_id l]
end

/-- A result without names. -/
def K1 (s : SV) (_ : Hp) : Option SV := cond (s.lt 0) (some s) none
theorem K1_spec (s : SV) (h : Hp) (x : SV) (hk : K1 s h = some x) : x = s ∧ s.lt 0 = true := by
  unfold K1 at hk
  cases e : s.lt 0 with
  | false => rw [e] at hk; cases hk
  | true => rw [e] at hk; cases hk; exact ⟨rfl, rfl⟩

section
variable {P : Program} {C : FuncId → Option Con} {cn : Nat → St → Option St} {F : Nat}

/-- A function of plain values. -/
theorem con_pure {f : FuncId} {fn : Func} {c0 : Code} (hm : P.follows .mixedOrders = true) (hf : P.funcs[f]? = some fn) (hname : (fn.name == "runtime.NumGoroutine") = false) (hbody : fn.body = some c0)
    (hC : ∀ B' g φ, C g = some φ → ConOk P B' g φ) (hcn : ∀ B' w, CnOk cn B' w fn.ntmps) {φ : Con}
    (hφ : ∀ args lo h out ids, (φ args lo).run h = some (out, ids) → out.upd = [] ∧ ltL 0 args = true ∧ evFn P C cn F fn args [] 0 K1 = some out.val) (B : Nat → Prop) : ConOk P B f φ := by
  intro args ρ h w lo out ids hr hrh hfree hargs up
  obtain ⟨h1, h2, h3⟩ := hφ args lo h out ids hr
  have := con_reads (B := B) hm hf hname hbody hC hcn args (fun i => i) [] 0 out.val K1_spec h3 ρ h w lo hrh up h2 (fun i oc hi => by cases hi) (fun i oc hi => by cases hi)
  rw [renL_id] at this
  obtain ⟨v, u⟩ := out
  simp only at h1
  subst h1
  exact this

/-- .. as the printed contracts say it. -/
theorem calls_of_con {f : FuncId} {fn : Func} {c0 : Code} (hf : P.funcs[f]? = some fn) (hname : (fn.name == "runtime.NumGoroutine") = false) (hbody : fn.body = some c0) {φ : Con} (hc : ∀ B, ConOk P B f φ) {args : List SV} {out : Out} {ids : List Nat}
    (hr : (φ args 0).run [] = some (out, ids)) (ha : freeL 0 wide args = true) (hv : out.val.lt 0 = true) (ρ : Rho) (w : World) :
    Calls P f (denL ρ args).toArray w fun e w' => e = .returned (den ρ out.val) ∧ Below w.heap.size w w' := by
  have hh : HR (fun b => w.heap.size ≤ b) ρ [] w := ⟨(fun i o h => by cases h), (fun i o h => by cases h), (fun i o h => by cases h), (fun i j o o' h => by cases h)⟩
  rcases hc (fun b => w.heap.size ≤ b) args ρ [] w 0 out ids hr hh (fun i o h => by cases h) (by rw [Nat.zero_add]; exact ha) (fun b hb => hb) with ⟨_, h2⟩ | ⟨v, w', h1, _⟩
  · refine h2.mono ?_
    rintro e w' ⟨v, rfl, ρ', m⟩
    exact ⟨by rw [m.val, den_lt0 (ρ := ρ) _ hv], m.ks.below (fun b hb => hb)⟩
  · rw [run_callFunc_enter' hf hname hbody] at h1
    cases h1

/-- A printed contract of plain values, as this machine takes it. -/
theorem con_of_calls {f : FuncId} {fn : Func} {c0 : Code} (hf : P.funcs[f]? = some fn) (hname : (fn.name == "runtime.NumGoroutine") = false) (hbody : fn.body = some c0) {φ : Con}
    (hφ : ∀ args lo h out ids, (φ args lo).run h = some (out, ids) → out.upd = [] ∧ out.val.lt 0 = true ∧ ∀ ρ w, Calls P f (denL ρ args).toArray w fun e w' => e = .returned (den ρ out.val) ∧ Below w.heap.size w w') (B : Nat → Prop) : ConOk P B f φ := by
  intro args ρ h w lo out ids hr hrh hfree hargs up
  obtain ⟨h1, h2, h3⟩ := hφ args lo h out ids hr
  refine .inl ⟨run_callFunc_enter' hf hname hbody _ _, (h3 ρ w).mono ?_⟩
  rintro e w' ⟨rfl, hb⟩
  obtain ⟨v, u⟩ := out
  simp only at h1 h2 ⊢
  subst h1
  exact ⟨_, rfl, ρ, rfl, fun _ _ => rfl, hrh.keep hb.size fun i o ho hd hn => hb.block _ ((hrh.ok i o ho).lt hd hn), Keeps.of_below hb up⟩
end

/-! Loops by name: what stands behind a place in the code. -/
section
variable (E : Oper → (Operand → Option SV) → Nat → Rd Out) (n : Nat) (cn : Nat → St → Option St) (F : Nat)
def seqK {β : Type} (b : Code) (K : Ex → St → Option β) : Ex → St → Option β := fun e σ' => match e with
  | .normal => ev E n cn F b σ' K
  | .exit id => K (.exit id) σ'
  | .ret => K .ret σ'
def blkK {β : Type} (id : Nat) (K : Ex → St → Option β) : Ex → St → Option β := fun e σ' => match e with
  | .normal => K .normal σ'
  | .exit j => cond (Nat.beq j id) (K .normal σ') (K (.exit j) σ')
  | .ret => K .ret σ'
def loopF {β : Type} (c : Code) (K : Ex → St → Option β) : (St → Option β) → St → Option β := fun rec σ1 => ev E n cn F c σ1 fun e σ' => match e with
  | .normal => match cn (key c) σ' with
    | none => none
    | some σ2 => rec σ2
  | .exit id => K (.exit id) σ'
  | .ret => K .ret σ'
inductive Dir where
  | L | R | D | T | E
def sub : List Dir → Code → Code
  | [], c => c
  | d :: p, c => match c with
    | .seq a b => match d with
      | .L => sub p a
      | _ => sub p b
    | .cond _ a b => match d with
      | .T => sub p a
      | _ => sub p b
    | .block _ c => sub p c
    | .loop c => sub p c
    | c => c
def kont {β : Type} : List Dir → Code → (Ex → St → Option β) → Ex → St → Option β
  | [], _, K => K
  | d :: p, c, K => match c with
    | .seq a b => match d with
      | .L => kont p a (seqK E n cn F b K)
      | _ => kont p b K
    | .cond _ a b => match d with
      | .T => kont p a K
      | _ => kont p b K
    | .block id c => kont p c (blkK id K)
    | _ => K
def finK {β : Type} (P : Program) (fn : Func) (K : SV → Hp → Option β) : Ex → St → Option β := fun e σ' => match e with
  | .exit _ => none
  | _ => match resS P σ' fn.results.toList with
    | none => none
    | some l => K (resV l) σ'.hp
def bodyOf (fn : Func) : Code := match fn.body with
  | some c => c
  | none => .skip
/-- The loop at a place of a function. -/
def loopAt {β : Type} (P : Program) (fn : Func) (K : SV → Hp → Option β) (p : List Dir) (k : Nat) (σ : St) : Option β :=
  match sub p (bodyOf fn) with
  | .loop c => iter k (loopF E n cn F c (kont E n cn F p (bodyOf fn) (finK P fn K))) σ
  | _ => none
end

theorem sel_some {α : Type} (b : Bool) (x y : α) : sel b (some x) (some y) = some (bif b then x else y) := by cases b <;> rfl
theorem sel_true {α : Type} (x y : Option α) : sel true x y = x := rfl
theorem sel_false {α : Type} (x y : Option α) : sel false x y = y := rfl
theorem obnd_some {α β : Type} (x : α) (f : α → Option β) : obnd (some x) f = f x := rfl
theorem obnd_none {α β : Type} (f : α → Option β) : obnd (none : Option α) f = none := rfl

end Go.Proofs.Ytcheokphnhjomaa.Ax
