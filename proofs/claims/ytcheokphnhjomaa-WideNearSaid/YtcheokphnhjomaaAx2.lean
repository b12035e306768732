/- AX 2: reading programs over the abstract heap; states; steps. -/
import Derived.Test.YtcheokphnhjomaaAx1
namespace Go.Proofs.Ytcheokphnhjomaa.Ax
open Go Go.RowKit
set_option linter.unusedVariables false
set_option linter.unusedSimpArgs false

inductive Rd (α : Type) : Type 1 where
  | ret (a : α)
  | fail
  | obj (id : Nat) (k : AObj → Rd α)
  | br (b : Bool) (t e : Rd α)
  | opt {γ : Type} (x : Option γ) (k : γ → Rd α)

def Rd.bind {α β : Type} : Rd α → (α → Rd β) → Rd β
  | .ret a, f => f a
  | .fail, _ => .fail
  | .obj id k, f => .obj id fun o => (k o).bind f
  | .br b t e, f => .br b (t.bind f) (e.bind f)
  | .opt x k, f => .opt x fun y => (k y).bind f
instance : Monad Rd where
  pure := Rd.ret
  bind := Rd.bind
def Rd.guard {α : Type} (b : Bool) (r : Rd α) : Rd α := .br b r .fail
def Rd.of {α : Type} : Option α → Rd α
  | some a => .ret a
  | none => .fail

/-- What it tells, and what it read. -/
def Rd.run {α : Type} (h : Hp) : Rd α → Option (α × List Nat)
  | .ret a => some (a, [])
  | .fail => none
  | .obj id k => match look h id with
    | some o => ((k o).run h).map fun (a, l) => (a, id :: l)
    | none => none
  | .br b t e => match b with
    | true => t.run h
    | false => e.run h
  | .opt x k => match x with
    | some y => (k y).run h
    | none => none

/-- A fork on data, and what is told on of a pure answer: words that stand out where a run is shown. -/
def sel {α : Type} (b : Bool) (x y : Option α) : Option α := cond b x y
def obnd {α β : Type} (x : Option α) (f : α → Option β) : Option β := x.bind f
/-- The same, told on. -/
def Rd.runK {α β : Type} (h : Hp) : Rd α → List Nat → (α → List Nat → Option β) → Option β
  | .ret a, l, K => K a l
  | .fail, _, _ => none
  | .obj id k, l, K => match look h id with
    | some o => (k o).runK h (id :: l) K
    | none => none
  | .br b t e, l, K => sel b (t.runK h l K) (e.runK h l K)
  | .opt x k, l, K => obnd x fun y => (k y).runK h l K

theorem Rd.runK_eq {α β : Type} (h : Hp) (r : Rd α) : ∀ (l : List Nat) (K : α → List Nat → Option β) (b : β), r.runK h l K = some b → ∃ a ids, r.run h = some (a, ids) ∧ K a (ids.reverse ++ l) = some b := by
  induction r with
  | ret a => exact fun l K b hb => ⟨a, [], rfl, hb⟩
  | fail => exact fun l K b hb => by cases hb
  | obj id k ih =>
    intro l K b hb
    simp only [Rd.runK] at hb
    cases ho : look h id with
    | none => rw [ho] at hb; cases hb
    | some o =>
      rw [ho] at hb
      obtain ⟨a, ids, h1, h2⟩ := ih o _ _ _ hb
      exact ⟨a, id :: ids, by simp only [Rd.run, ho, h1, Option.map_some], by simpa using h2⟩
  | br c t e iht ihe =>
    intro l K b hb
    cases c with
    | true => obtain ⟨a, ids, h1, h2⟩ := iht _ _ _ hb; exact ⟨a, ids, h1, h2⟩
    | false => obtain ⟨a, ids, h1, h2⟩ := ihe _ _ _ hb; exact ⟨a, ids, h1, h2⟩
  | opt x k ih =>
    intro l K b hb
    cases x with
    | none => cases hb
    | some y => obtain ⟨a, ids, h1, h2⟩ := ih y _ _ _ hb; exact ⟨a, ids, h1, h2⟩

theorem Rd.run_local {α : Type} (h h' : Hp) (r : Rd α) : ∀ (a : α) (ids : List Nat), r.run h = some (a, ids) → (∀ i ∈ ids, look h' i = look h i) → r.run h' = some (a, ids) := by
  induction r with
  | ret a => intro b ids hb _; exact hb
  | fail => intro b ids hb _; cases hb
  | obj id k ih =>
    intro a ids hr hi
    simp only [Rd.run] at hr ⊢
    cases ho : look h id with
    | none => rw [ho] at hr; cases hr
    | some o =>
      rw [ho] at hr
      simp only [Option.map_eq_some_iff] at hr
      obtain ⟨⟨a', l⟩, h1, h2⟩ := hr
      cases h2
      rw [hi id (by simp), ho]
      simp only [ih o a' l h1 (fun i hm => hi i (by simp [hm])), Option.map_some]
  | br c t e iht ihe =>
    intro a ids hr hi
    cases c with
    | true => exact iht a ids hr hi
    | false => exact ihe a ids hr hi
  | opt x k ih =>
    intro a ids hr hi
    cases x with
    | none => cases hr
    | some y => exact ih y a ids hr hi

/-- A state: slots, heap, the next name. -/
structure St where
  sl : List (Nat × SV)
  hp : Hp
  nx : Nat

/-- What a step makes: a value for its slot, and what names stand for from now on. -/
structure Out where
  val : SV
  upd : List (Nat × AObj) := []

def puts : Hp → List (Nat × AObj) → Hp
  | h, [] => h
  | h, (i, o) :: l => puts (put h i o) l

def St.app (σ : St) (dst : Option Nat) (o : Out) : St :=
  { sl := match dst with | some d => put σ.sl d o.val | none => σ.sl, hp := puts σ.hp o.upd, nx := σ.nx }

/-! Laid out plainly, and told on: so that what is carried along stays small where it is reckoned. -/
def forceC {β : Type} : List SV → (List SV → β) → β
  | [], k => k []
  | s :: l, k => forceC l fun l' => k (s :: l')
def forceV {β : Type} (s : SV) (k : SV → β) : β := match s with
  | .agg l => forceC l fun l' => k (.agg l')
  | .tup l => forceC l fun l' => k (.tup l')
  | .v x => k (.v x)
  | .ptr i o => k (.ptr i o)
  | .elt i n j u => k (.elt i n j u)
  | .slc i n o l c => k (.slc i n o l c)
  | .all i => k (.all i)
  | .map i => k (.map i)
  | .fn f a c => k (.fn f a c)
def forceO {β : Type} (o : AObj) (k : AObj → β) : β := match o with
  | .cells t c => forceC c fun c' => k (.cells t c')
  | .dead => k .dead
  | .row t s l => k (.row t s l)
  | .ro t c => k (.ro t c)
  | .arg s l => k (.arg s l)
def forceSl {β : Type} : List (Nat × SV) → (List (Nat × SV) → β) → β
  | [], k => k []
  | (n, s) :: l, k => forceV s fun s' => forceSl l fun l' => k ((n, s') :: l')
def forceHp {β : Type} : Hp → (Hp → β) → β
  | [], k => k []
  | (n, o) :: l, k => forceO o fun o' => forceHp l fun l' => k ((n, o') :: l')
def forceN {β : Type} (n : Nat) (k : Nat → β) : β := match n with
  | 0 => k 0
  | n + 1 => k (n + 1)
def forceSt {β : Type} (σ : St) (k : St → β) : β := forceSl σ.sl fun sl => forceHp σ.hp fun hp => forceN σ.nx fun nx => k ⟨sl, hp, nx⟩
theorem forceC_eq {β : Type} : ∀ (l : List SV) (k : List SV → β), forceC l k = k l
  | [], _ => rfl
  | s :: l, k => forceC_eq l _
theorem forceV_eq {β : Type} (s : SV) (k : SV → β) : forceV s k = k s := by
  cases s <;> first | rfl | exact forceC_eq _ _
theorem forceO_eq {β : Type} (s : AObj) (k : AObj → β) : forceO s k = k s := by
  cases s <;> first | rfl | exact forceC_eq _ _
theorem forceSl_eq {β : Type} : ∀ (l : List (Nat × SV)) (k : List (Nat × SV) → β), forceSl l k = k l
  | [], _ => rfl
  | (n, s) :: l, k => by simp only [forceSl, forceV_eq]; exact forceSl_eq l _
theorem forceHp_eq {β : Type} : ∀ (l : Hp) (k : Hp → β), forceHp l k = k l
  | [], _ => rfl
  | (n, s) :: l, k => by simp only [forceHp, forceO_eq]; exact forceHp_eq l _
theorem forceN_eq {β : Type} (n : Nat) (k : Nat → β) : forceN n k = k n := by cases n <;> rfl
theorem forceSt_eq {β : Type} (σ : St) (k : St → β) : forceSt σ k = k σ := by
  simp only [forceSt, forceSl_eq, forceHp_eq, forceN_eq]

def wide : Nat := 16

/-- A callee: from arguments and the next name to what it reads and makes. -/
abbrev Con := List SV → Nat → Rd Out

theorem look_puts (l : List (Nat × AObj)) : ∀ (h : Hp) (i : Nat), (∀ p ∈ l, p.1 ≠ i) → look (puts h l) i = look h i := by
  induction l with
  | nil => exact fun h i _ => rfl
  | cons p l ih =>
    obtain ⟨j, o⟩ := p
    intro h i hn
    simp only [puts]
    rw [ih _ _ (fun q hq => hn q (by simp [hq])), look_put, if_neg (hn (j, o) (by simp))]

/-- The state, as the frame and the world have it. -/
structure R (B : Nat → Prop) (w0 : World) (n : Nat) (σ : St) (ρ : Rho) (a : Act) (w : World) : Prop where
  sz : a.tmps.size = n
  df : a.defers = []
  sl : ∀ t s, look σ.sl t = some s → t < n ∧ a.tmps.getD t undef = den ρ s
  hr : HR B ρ σ.hp w
  up : ∀ b, w0.heap.size ≤ b → B b
  ks : Keeps B w0 w

/-- No name from lo up to hi stands in the state. -/
structure Fresh (lo hi : Nat) (σ : St) : Prop where
  sl : ∀ t s, look σ.sl t = some s → s.free lo hi = true
  hp : ∀ i o, look σ.hp i = some o → (i < lo ∨ hi ≤ i) ∧ o.free lo hi = true

/-- An operation runs to a value. -/
def Gives (P : Program) (o : Oper) (a : Act) (w : World) (S : Value → World → Prop) : Prop :=
  ∀ (K : Act → World → Prop) (Q : Exit → Act → World → Prop), (∀ v w', S v w' → K (a.put o.dst v) w') → o.wp P a w K Q

theorem Gives.value {P : Program} {o : Oper} {a : Act} {w w' : World} {S : Value → World → Prop} {v : Value} (h : (execOp a.eval o).run P w = .ok (.value v) w') (hs : S v w') : Gives P o a w S := by
  intro K Q hk
  unfold Oper.wp
  rw [h]
  exact hk v w' hs
theorem Gives.skip {P : Program} {o : Oper} {a : Act} {w w' : World} {S : Value → World → Prop} (h : (execOp a.eval o).run P w = .ok .skip w') (hs : S undef w') : Gives P o a w S := by
  intro K Q hk
  unfold Oper.wp
  rw [h]
  exact hk _ w' hs
theorem Gives.enter {P : Program} {o : Oper} {a : Act} {w w' : World} {S : Value → World → Prop} {f : FuncId} {args : Array Value} (h : (execOp a.eval o).run P w = .ok (.enter f args) w')
    (hs : Calls P f args w' fun e w'' => ∃ v, e = .returned v ∧ S v w'') : Gives P o a w S := by
  intro K Q hk
  unfold Oper.wp
  rw [h]
  exact Calls.mono hs fun e w'' ⟨v, he, hv⟩ => by subst he; exact hk v w'' hv

/-- What a step's making means for the world. -/
structure Made (B : Nat → Prop) (ρ : Rho) (h : Hp) (w : World) (lo hi : Nat) (out : Out) (ρ' : Rho) (v : Value) (w' : World) : Prop where
  val : v = den ρ' out.val
  rho : ∀ i, i < lo ∨ hi ≤ i → ρ' i = ρ i
  hr : HR B ρ' (puts h out.upd) w'
  ks : Keeps B w w'

end Go.Proofs.Ytcheokphnhjomaa.Ax
