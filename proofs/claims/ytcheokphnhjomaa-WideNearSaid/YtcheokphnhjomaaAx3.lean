/- AX 3: a region whose order is open: carried out in the order of the text, it ends where every order ends. -/
import Derived.Test.YtcheokphnhjomaaAx2
namespace Go.Proofs.Ytcheokphnhjomaa.Ax
open Go Go.RowKit
set_option linter.unusedVariables false
set_option linter.unusedSimpArgs false

def constSV : Value → SV
  | .agg cs => .agg (cs.toList.map SV.v)
  | v => .v v
def evo (σ : St) : Operand → Option SV
  | .tmp t => look σ.sl t
  | .const v => some (constSV v)
  | .global _ => none
  | .func f => some (.fn (.func f) [] [])

theorem den_constSV (ρ : Rho) (v : Value) : den ρ (constSV v) = v := by
  cases v <;> try rfl
  rename_i cs
  simp only [constSV, den, denL_map, List.map_map]
  have : (den ρ ∘ SV.v) = id := by funext x; rfl
  rw [this, List.map_id]
theorem R.eval {B : Nat → Prop} {w0 w : World} {n : Nat} {σ : St} {ρ : Rho} {a : Act} (h : R B w0 n σ ρ a w) (x : Operand) (s : SV) (hx : evo σ x = some s) : a.eval x = den ρ s := by
  cases x with
  | tmp t => exact (h.sl t s hx).2
  | const v => cases hx; exact (den_constSV ρ v).symm
  | global g => cases hx
  | func f => cases hx; rfl

/-! All names are below n. -/
mutual
def SV.lt (n : Nat) : SV → Bool
  | .v _ => true
  | .ptr id _ | .elt id _ _ _ | .slc id _ _ _ _ | .all id | .map id => Nat.blt id n
  | .fn _ fi ca => ltL n fi && ltL n ca
  | .agg l | .tup l => ltL n l
def ltL (n : Nat) : List SV → Bool
  | [] => true
  | s :: l => SV.lt n s && ltL n l
end
theorem blt_lt {a b : Nat} (h : Nat.blt a b = true) : a < b := Nat.le_of_ble_eq_true h
theorem lt_blt {a b : Nat} (h : a < b) : Nat.blt a b = true := Nat.ble_eq_true_of_le h
mutual
theorem SV.lt_mono {n m : Nat} (h : n ≤ m) : ∀ s : SV, s.lt n = true → s.lt m = true
  | .v _, _ => rfl
  | .ptr id _, hs => lt_blt (Nat.lt_of_lt_of_le (blt_lt hs) h)
  | .elt id _ _ _, hs => lt_blt (Nat.lt_of_lt_of_le (blt_lt hs) h)
  | .slc id _ _ _ _, hs => lt_blt (Nat.lt_of_lt_of_le (blt_lt hs) h)
  | .all id, hs => lt_blt (Nat.lt_of_lt_of_le (blt_lt hs) h)
  | .map id, hs => lt_blt (Nat.lt_of_lt_of_le (blt_lt hs) h)
  | .fn _ fi ca, hs => by
    simp only [SV.lt, Bool.and_eq_true] at hs ⊢
    exact ⟨ltL_mono h fi hs.1, ltL_mono h ca hs.2⟩
  | .agg l, hs => ltL_mono h l hs
  | .tup l, hs => ltL_mono h l hs
theorem ltL_mono {n m : Nat} (h : n ≤ m) : ∀ l : List SV, ltL n l = true → ltL m l = true
  | [], _ => rfl
  | s :: l, hs => by
    simp only [ltL, Bool.and_eq_true] at hs ⊢
    exact ⟨SV.lt_mono h s hs.1, ltL_mono h l hs.2⟩
end
mutual
theorem SV.lt_free {n lo hi : Nat} (h : n ≤ lo) : ∀ s : SV, s.lt n = true → s.free lo hi = true
  | .v _, _ => rfl
  | .ptr id _, hs => by simp only [SV.free, Bool.or_eq_true]; exact .inr (lt_blt (Nat.lt_of_lt_of_le (blt_lt hs) h))
  | .elt id _ _ _, hs => by simp only [SV.free, Bool.or_eq_true]; exact .inr (lt_blt (Nat.lt_of_lt_of_le (blt_lt hs) h))
  | .slc id _ _ _ _, hs => by simp only [SV.free, Bool.or_eq_true]; exact .inr (lt_blt (Nat.lt_of_lt_of_le (blt_lt hs) h))
  | .all id, hs => by simp only [SV.free, Bool.or_eq_true]; exact .inr (lt_blt (Nat.lt_of_lt_of_le (blt_lt hs) h))
  | .map id, hs => by simp only [SV.free, Bool.or_eq_true]; exact .inr (lt_blt (Nat.lt_of_lt_of_le (blt_lt hs) h))
  | .fn _ fi ca, hs => by
    simp only [SV.lt, Bool.and_eq_true] at hs
    simp only [SV.free, Bool.and_eq_true]
    exact ⟨ltL_free h fi hs.1, ltL_free h ca hs.2⟩
  | .agg l, hs => ltL_free h l hs
  | .tup l, hs => ltL_free h l hs
theorem ltL_free {n lo hi : Nat} (h : n ≤ lo) : ∀ l : List SV, ltL n l = true → freeL lo hi l = true
  | [], _ => rfl
  | s :: l, hs => by
    simp only [ltL, freeL, Bool.and_eq_true] at hs ⊢
    exact ⟨SV.lt_free h s hs.1, ltL_free h l hs.2⟩
end
def AObj.lt (n : Nat) : AObj → Bool
  | .cells _ c | .ro _ c => ltL n c
  | _ => true
theorem AObj.lt_mono {n m : Nat} (h : n ≤ m) (o : AObj) (ho : o.lt n = true) : o.lt m = true := by
  cases o <;> first | rfl | exact ltL_mono h _ ho
theorem AObj.lt_free {n lo hi : Nat} (h : n ≤ lo) (o : AObj) (ho : o.lt n = true) : o.free lo hi = true := by
  cases o <;> first | rfl | exact ltL_free h _ ho

structure Wf (σ : St) : Prop where
  sl : ∀ t s, look σ.sl t = some s → s.lt σ.nx = true
  hp : ∀ i o, look σ.hp i = some o → i < σ.nx ∧ o.lt σ.nx = true
theorem Wf.fresh {σ : St} (h : Wf σ) {lo hi : Nat} (hl : σ.nx ≤ lo) : Fresh lo hi σ :=
  ⟨fun t s hs => SV.lt_free hl s (h.sl t s hs), fun i o ho => ⟨.inl (Nat.lt_of_lt_of_le (h.hp i o ho).1 hl), AObj.lt_free hl o (h.hp i o ho).2⟩⟩

def updFree (lo hi : Nat) : List (Nat × AObj) → Bool
  | [] => true
  | (k, o) :: l => (Nat.ble hi k || Nat.blt k lo) && o.free lo hi && updFree lo hi l
def updLt (n : Nat) : List (Nat × AObj) → Bool
  | [] => true
  | (k, o) :: l => Nat.blt k n && o.lt n && updLt n l
def Out.free (lo hi : Nat) (o : Out) : Bool := o.val.free lo hi && updFree lo hi o.upd
def Out.lt (n : Nat) (o : Out) : Bool := o.val.lt n && updLt n o.upd

theorem look_puts_of (l : List (Nat × AObj)) : ∀ (h : Hp) (i : Nat) (o : AObj), look (puts h l) i = some o → (i, o) ∈ l ∨ look h i = some o := by
  induction l with
  | nil => exact fun h i o ho => .inr ho
  | cons p l ih =>
    obtain ⟨k, x⟩ := p
    intro h i o ho
    rcases ih _ _ _ ho with h' | h'
    · exact .inl (by simp [h'])
    · rw [look_put] at h'
      split at h'
      · rename_i e; subst e; cases h'; exact .inl (by simp)
      · exact .inr h'
theorem updFree_mem {lo hi : Nat} : ∀ {l : List (Nat × AObj)}, updFree lo hi l = true → ∀ k o, (k, o) ∈ l → (k < lo ∨ hi ≤ k) ∧ o.free lo hi = true
  | [], _, _, _, h => by cases h
  | (k, o) :: l, hf, k', o', h => by
    simp only [updFree, Bool.and_eq_true] at hf
    rcases List.mem_cons.1 h with h | h
    · cases h; exact ⟨out_of hf.1.1, hf.1.2⟩
    · exact updFree_mem hf.2 k' o' h
theorem updLt_mem {n : Nat} : ∀ {l : List (Nat × AObj)}, updLt n l = true → ∀ k o, (k, o) ∈ l → k < n ∧ o.lt n = true
  | [], _, _, _, h => by cases h
  | (k, o) :: l, hf, k', o', h => by
    simp only [updLt, Bool.and_eq_true] at hf
    rcases List.mem_cons.1 h with h | h
    · cases h; exact ⟨blt_lt hf.1.1, hf.1.2⟩
    · exact updLt_mem hf.2 k' o' h

theorem look_app_sl (σ : St) (dst : Option Nat) (out : Out) (t : Nat) : look (σ.app dst out).sl t = if dst = some t then some out.val else look σ.sl t := by
  cases dst with
  | none => simp [St.app]
  | some d => simp only [St.app, look_put, Option.some.injEq]

theorem Fresh.app {lo hi : Nat} {σ : St} (h : Fresh lo hi σ) {dst : Option Nat} {out : Out} (ho : out.free lo hi = true) : Fresh lo hi (σ.app dst out) := by
  simp only [Out.free, Bool.and_eq_true] at ho
  refine ⟨fun t s hs => ?_, fun i o hi => ?_⟩
  · rw [look_app_sl] at hs
    split at hs
    · cases hs; exact ho.1
    · exact h.sl t s hs
  · rcases look_puts_of _ _ _ _ hi with h' | h'
    · exact updFree_mem ho.2 _ _ h'
    · exact h.hp _ _ h'

section
variable (E : Oper → (Operand → Option SV) → Nat → Rd Out) (n : Nat) (ops : Array Oper) (n0 : Nat)

def ysv (ops : Array Oper) (σ : St) (g : Nat) : Option Bool :=
  match (ops[g]?).bind (·.dst) with
  | some t => match look σ.sl t with
    | some (.v (.bool b)) => some b
    | _ => none
  | none => none

/-- The slot holds nothing: what it would have told was not asked. -/
def yun (ops : Array Oper) (σ : St) (g : Nat) : Bool :=
  match (ops[g]?).bind (·.dst) with
  | some t => match look σ.sl t with
    | some (.v (.tuple _)) => true
    | _ => false
  | none => false

def stepR (i : Nat) (o : Oper) (σ : St) : Option (Out × List Nat) :=
  match o.guard with
  | none => (E o (evo σ) (n0 + wide * i)).run σ.hp
  | some (g, want) => match ysv ops σ g with
    | some b => if b = want then (E o (evo σ) (n0 + wide * i)).run σ.hp else some (⟨.v undef, []⟩, [])
    | none => cond (yun ops σ g) (some (⟨.v undef, []⟩, [])) none

structure Rec where
  i : Nat
  out : Out
  ids : List Nat

def dstOf (ops : Array Oper) (i : Nat) : Option Nat := (ops[i]?).bind (·.dst)
def St.after (ops : Array Oper) (σ : St) (r : Rec) : St := σ.app (dstOf ops r.i) r.out
def Step (σ : St) (r : Rec) : Prop := ∃ o, ops[r.i]? = some o ∧ stepR E ops n0 r.i o σ = some (r.out, r.ids)

structure Eqv (σ σ' : St) : Prop where
  sl : ∀ t, look σ.sl t = look σ'.sl t
  hp : ∀ i, look σ.hp i = look σ'.hp i
theorem Eqv.refl (σ : St) : Eqv σ σ := ⟨fun _ => rfl, fun _ => rfl⟩
theorem Eqv.symm {σ σ' : St} (h : Eqv σ σ') : Eqv σ' σ := ⟨fun t => (h.sl t).symm, fun t => (h.hp t).symm⟩
theorem Eqv.trans {a b c : St} (h : Eqv a b) (k : Eqv b c) : Eqv a c := ⟨fun t => (h.sl t).trans (k.sl t), fun t => (h.hp t).trans (k.hp t)⟩
theorem look_puts_at (l : List (Nat × AObj)) (i : Nat) : ∀ (h h' : Hp), look h i = look h' i → look (puts h l) i = look (puts h' l) i := by
  induction l with
  | nil => exact fun h h' e => e
  | cons p l ih =>
    obtain ⟨k, o⟩ := p
    intro h h' e
    exact ih _ _ (by rw [look_put, look_put, e])
theorem look_puts_congr (l : List (Nat × AObj)) (h h' : Hp) (e : ∀ i, look h i = look h' i) (i : Nat) : look (puts h l) i = look (puts h' l) i := look_puts_at l i h h' (e i)
theorem Eqv.app {σ σ' : St} (h : Eqv σ σ') (dst : Option Nat) (out : Out) : Eqv (σ.app dst out) (σ'.app dst out) :=
  ⟨fun t => by rw [look_app_sl, look_app_sl, h.sl t], look_puts_congr _ _ _ h.hp⟩

/-- Runs L σ σ': the steps L, one behind the other, lead from σ to what reads as σ'. -/
inductive Runs : List Rec → St → St → Prop
  | nil {σ σ' : St} (h : Eqv σ σ') : Runs [] σ σ'
  | cons {r : Rec} {L : List Rec} {σ σ' : St} (h : Step E ops n0 σ r) (t : Runs L (σ.after ops r) σ') : Runs (r :: L) σ σ'

variable (EL : ∀ (o : Oper) (ev ev' : Operand → Option SV) (fr : Nat), (∀ x ∈ o.op.operands, ev x = ev' x) → E o ev fr = E o ev' fr)
include EL

omit EL in
theorem ysv_congr {σ σ' : St} {g : Nat} (h : ∀ t, dstOf ops g = some t → look σ'.sl t = look σ.sl t) : ysv ops σ' g = ysv ops σ g := by
  unfold ysv
  unfold dstOf at h
  cases hd : (ops[g]?).bind (·.dst) with
  | none => rfl
  | some t => simp only [h t hd]

omit EL in
theorem yun_congr {σ σ' : St} {g : Nat} (h : ∀ t, dstOf ops g = some t → look σ'.sl t = look σ.sl t) : yun ops σ' g = yun ops σ g := by
  unfold yun
  unfold dstOf at h
  cases hd : (ops[g]?).bind (·.dst) with
  | none => rfl
  | some t => simp only [h t hd]

theorem step_congr {σ σ' : St} {i : Nat} {o : Oper} {out : Out} {ids : List Nat} (hs : stepR E ops n0 i o σ = some (out, ids))
    (h1 : ∀ t ∈ o.looksAt ops, look σ'.sl t = look σ.sl t) (h2 : ∀ j ∈ ids, look σ'.hp j = look σ.hp j) : stepR E ops n0 i o σ' = some (out, ids) := by
  have he : E o (evo σ') (n0 + wide * i) = E o (evo σ) (n0 + wide * i) := EL o _ _ _ fun x hx => by
    cases x with
    | tmp t => exact h1 t (List.mem_append_left _ (List.mem_filterMap.2 ⟨.tmp t, by simpa using hx, rfl⟩))
    | _ => rfl
  unfold stepR at hs ⊢
  cases hg : o.guard with
  | none =>
    rw [hg] at hs
    simp only at hs ⊢
    rw [he]
    exact Rd.run_local _ _ _ _ _ hs h2
  | some gw =>
    obtain ⟨g, want⟩ := gw
    rw [hg] at hs
    simp only at hs ⊢
    have hl : ∀ t, dstOf ops g = some t → look σ'.sl t = look σ.sl t := fun t ht => h1 t (List.mem_append_right _ (by
      rw [hg]
      unfold dstOf at ht
      simp [ht]))
    have hy : ysv ops σ' g = ysv ops σ g := ysv_congr ops hl
    have hu : yun ops σ' g = yun ops σ g := yun_congr ops hl
    rw [hy]
    cases hb : ysv ops σ g with
    | none => rw [hb] at hs; simp only at hs ⊢; rw [hu]; exact hs
    | some b =>
      rw [hb] at hs
      simp only at hs ⊢
      split at hs
      · rename_i e
        rw [if_pos e, he]
        exact Rd.run_local _ _ _ _ _ hs h2
      · rename_i e
        rw [if_neg e]
        exact hs

theorem Step.eqv {σ σ' : St} {r : Rec} (h : Step E ops n0 σ r) (e : Eqv σ' σ) : Step E ops n0 σ' r := by
  obtain ⟨o, ho, hs⟩ := h
  exact ⟨o, ho, step_congr E ops n0 EL hs (fun t _ => e.sl t) (fun j _ => e.hp j)⟩
theorem Runs.eqv {L : List Rec} : ∀ {σ σ' σ'' : St}, Runs E ops n0 L σ σ'' → Eqv σ' σ → Runs E ops n0 L σ' σ'' := by
  induction L with
  | nil => intro σ σ' σ'' h e; cases h with | nil h => exact .nil (e.trans h)
  | cons r L ih =>
    intro σ σ' σ'' h e
    cases h with
    | cons h t => exact .cons (Step.eqv E ops n0 EL h e) (ih t (e.app _ _))

def updKeys (o : Out) : List Nat := o.upd.map (·.1)
def disj : List Nat → List Nat → Bool
  | [], _ => true
  | a :: l, m => !(m.any (Nat.beq a)) && disj l m
omit EL in
theorem disj_spec : ∀ {l m : List Nat}, disj l m = true → ∀ a ∈ l, a ∉ m
  | [], _, _, _, h => by cases h
  | b :: l, m, hd, a, h => by
    simp only [disj, Bool.and_eq_true, Bool.not_eq_true', List.any_eq_false] at hd
    rcases List.mem_cons.1 h with h | h
    · subst h; exact fun hm => hd.1 a hm (Nat.beq_refl a)
    · exact disj_spec hd.2 a h

/-- Two steps that may change places. -/
def apartR (ops : Array Oper) (r s : Rec) : Bool :=
  match ops[r.i]?, ops[s.i]? with
  | some x, some y => x.apart ops y && disj r.ids (updKeys s.out) && disj s.ids (updKeys r.out) && disj (updKeys r.out) (updKeys s.out)
  | _, _ => false

theorem runs_swap {r s : Rec} {L : List Rec} {σ σ' : St} (ha : apartR ops r s = true) (h : Runs E ops n0 (r :: s :: L) σ σ') : Runs E ops n0 (s :: r :: L) σ σ' := by
  cases h with
  | cons h1 h =>
    cases h with
    | cons h2 h3 =>
      obtain ⟨x, hx, hr⟩ := h1
      obtain ⟨y, hy, hs⟩ := h2
      unfold apartR at ha
      rw [hx, hy] at ha
      simp only [Bool.and_eq_true] at ha
      obtain ⟨⟨⟨hap, hd1⟩, hd2⟩, hd3⟩ := ha
      obtain ⟨a1, a2, a3⟩ := Oper.apart_spec hap
      have dx : dstOf ops r.i = x.dst := by simp [dstOf, hx]
      have dy : dstOf ops s.i = y.dst := by simp [dstOf, hy]
      have off : ∀ (τ : St) (q : Out) (d : Option Nat) (i : Nat), i ∉ updKeys q → look (τ.app d q).hp i = look τ.hp i := fun τ q d i hi =>
        look_puts _ _ _ fun p hp e => hi (by rw [← e]; exact List.mem_map.2 ⟨p, hp, rfl⟩)
      have hs' : stepR E ops n0 s.i y σ = some (s.out, s.ids) := step_congr E ops n0 EL hs (fun t ht => by
          show look σ.sl t = look (σ.app (dstOf ops r.i) r.out).sl t
          rw [look_app_sl, if_neg]
          intro e
          exact a1 t (dx ▸ e) ht) (fun j hj => (off σ r.out _ j (disj_spec hd2 j hj)).symm)
      have hr' : stepR E ops n0 r.i x (σ.after ops s) = some (r.out, r.ids) := step_congr E ops n0 EL hr (fun t ht => by
          show look (σ.app (dstOf ops s.i) s.out).sl t = look σ.sl t
          rw [look_app_sl, if_neg]
          intro e
          exact a3 t (dy ▸ e) ht) (fun j hj => off σ s.out _ j (disj_spec hd1 j hj))
      refine .cons ⟨y, hy, hs'⟩ (.cons ⟨x, hx, hr'⟩ (Runs.eqv E ops n0 EL h3 ⟨fun t => ?_, fun i => ?_⟩))
      · show look ((σ.app (dstOf ops s.i) s.out).app (dstOf ops r.i) r.out).sl t = look ((σ.app (dstOf ops r.i) r.out).app (dstOf ops s.i) s.out).sl t
        simp only [look_app_sl]
        by_cases e1 : dstOf ops r.i = some t
        · have e2 : ¬ dstOf ops s.i = some t := fun e2 => a2 t (dx ▸ e1) (dy ▸ e2)
          rw [if_pos e1, if_neg e2, if_pos e1]
        · rw [if_neg e1, if_neg e1]
      · show look (puts (puts σ.hp s.out.upd) r.out.upd) i = look (puts (puts σ.hp r.out.upd) s.out.upd) i
        by_cases h1 : i ∈ updKeys r.out
        · have h2 := disj_spec hd3 i h1
          rw [look_puts s.out.upd (puts σ.hp r.out.upd) i (fun p hp e => h2 (by rw [← e]; exact List.mem_map.2 ⟨p, hp, rfl⟩))]
          have key : ∀ (l : List (Nat × AObj)) (h h' : Hp), i ∈ l.map (·.1) → look (puts h l) i = look (puts h' l) i := by
            intro l
            induction l with
            | nil => intro h h' hm; cases hm
            | cons p l ih =>
              intro h h' hm
              obtain ⟨k, o⟩ := p
              by_cases hm' : i ∈ l.map (·.1)
              · exact ih _ _ hm'
              · have hk : i = k := by
                  rcases List.mem_cons.1 hm with h | h
                  · exact h
                  · exact absurd h hm'
                subst hk
                have hn : ∀ q ∈ l, q.1 ≠ i := fun q hq e => hm' (by rw [← e]; exact List.mem_map.2 ⟨q, hq, rfl⟩)
                simp only [puts]
                rw [look_puts _ _ _ hn, look_puts _ _ _ hn, look_put, look_put, if_pos rfl, if_pos rfl]
          exact key _ _ _ h1
        · rw [look_puts r.out.upd _ i (fun p hp e => h1 (by rw [← e]; exact List.mem_map.2 ⟨p, hp, rfl⟩))]
          exact look_puts_at _ i _ _ (look_puts _ _ _ (fun p hp e => h1 (by rw [← e]; exact List.mem_map.2 ⟨p, hp, rfl⟩))).symm

end
end Go.Proofs.Ytcheokphnhjomaa.Ax
