/- AX 5: the evaluator of code, and that it is sound, over the soundness of one operation. -/
import Derived.Test.YtcheokphnhjomaaAx4
namespace Go.Proofs.Ytcheokphnhjomaa.Ax
open Go Go.RowKit
set_option linter.unusedVariables false
set_option linter.unusedSimpArgs false

inductive Ex where
  | normal
  | exit (id : Nat)
  | ret
def Ex.to : Ex → Exit
  | .normal => .normal
  | .exit id => .exit id
  | .ret => .ret

section
variable (E : Oper → (Operand → Option SV) → Nat → Rd Out) (n : Nat)

def dstOk (n : Nat) : Option Nat → Bool
  | none => true
  | some d => Nat.blt d n

/-- Where a bool has been asked for, it is known. -/
def St.setB (σ : St) (t : Option Nat) (b : Bool) : St := match t with
  | none => σ
  | some t => { σ with sl := put σ.sl t (.v (.bool b)) }
def tmpOf : Operand → Option Nat
  | .tmp t => some t
  | _ => none

def evOps {β : Type} (ops : Array Oper) (n0 : Nat) : Nat → List Oper → St → List Rec → (St → List Rec → Option β) → Option β
  | _, [], σ, rs, K => K σ rs
  | i, o :: l, σ, rs, K =>
    cond (dstOk n o.dst)
      (match o.guard with
      | none => (E o (evo σ) (n0 + wide * i)).runK σ.hp [] fun out ids => forceSt (σ.app o.dst out) fun σ' => evOps ops n0 (i + 1) l σ' (⟨i, out, ids.reverse⟩ :: rs) K
      | some (g, want) => match ysv ops σ g with
        | some b => match want with
          | true => sel b (forceSt (σ.setB (dstOf ops g) true) fun σ => (E o (evo σ) (n0 + wide * i)).runK σ.hp [] fun out ids => forceSt (σ.app o.dst out) fun σ' => evOps ops n0 (i + 1) l σ' (⟨i, out, ids.reverse⟩ :: rs) K)
              (forceSt ((σ.setB (dstOf ops g) false).app o.dst ⟨.v undef, []⟩) fun σ' => evOps ops n0 (i + 1) l σ' (⟨i, ⟨.v undef, []⟩, []⟩ :: rs) K)
          | false => sel b (forceSt ((σ.setB (dstOf ops g) true).app o.dst ⟨.v undef, []⟩) fun σ' => evOps ops n0 (i + 1) l σ' (⟨i, ⟨.v undef, []⟩, []⟩ :: rs) K)
              (forceSt (σ.setB (dstOf ops g) false) fun σ => (E o (evo σ) (n0 + wide * i)).runK σ.hp [] fun out ids => forceSt (σ.app o.dst out) fun σ' => evOps ops n0 (i + 1) l σ' (⟨i, out, ids.reverse⟩ :: rs) K)
        | none => cond (yun ops σ g) (forceSt (σ.app o.dst ⟨.v undef, []⟩) fun σ' => evOps ops n0 (i + 1) l σ' (⟨i, ⟨.v undef, []⟩, []⟩ :: rs) K) none)
      none

def regOk (ops : Array Oper) (n0 : Nat) (draw : Bool) (rs : List Rec) : Bool :=
  allPairs ops n0 (bif draw then masks ops.toList [] else []) draw rs && (!draw || edgesOk 0 ops.toList) && rs.all (fun r => r.out.lt (n0 + wide * ops.size))

def evReg {β : Type} (ops : Array Oper) (draw : Bool) (σ : St) (K : St → Option β) : Option β :=
  match σ with
  | ⟨sl, hp, nx⟩ => evOps E n ops nx 0 ops.toList ⟨sl, hp, nx⟩ [] fun σ' rs => sel (regOk ops nx draw rs.reverse) (forceN (nx + wide * ops.size) fun nx' => match σ' with
    | ⟨sl', hp', _⟩ => K ⟨sl', hp', nx'⟩) none

def iter {α β : Type} : Nat → ((α → Option β) → α → Option β) → α → Option β
  | 0, _, _ => none
  | k + 1, F, x => F (iter k F) x

/-- The first region's number: a loop's key. -/
def key : Code → Nat
  | .region id _ _ => id
  | .seq a b => match key a with
    | 0 => key b
    | k => k
  | .cond _ a _ => key a
  | .block _ c => key c
  | .loop c => key c
  | .scope c => key c
  | _ => 0

variable (cn : Nat → St → Option St) (F : Nat)

def ev {β : Type} : Code → St → (Ex → St → Option β) → Option β
  | .skip, σ, K => K .normal σ
  | .region _ ops draw, σ, K => evReg E n ops draw σ (K .normal)
  | .seq a b, σ, K => ev a σ fun e σ' => match e with
    | .normal => ev b σ' K
    | .exit id => K (.exit id) σ'
    | .ret => K .ret σ'
  | .cond c x y, σ, K => match evo σ c with
    | some (.v (.bool b)) => sel b (forceSt (σ.setB (tmpOf c) true) fun σ' => ev x σ' K) (forceSt (σ.setB (tmpOf c) false) fun σ' => ev y σ' K)
    | _ => none
  | .block id c, σ, K => ev c σ fun e σ' => match e with
    | .normal => K .normal σ'
    | .exit j => cond (Nat.beq j id) (K .normal σ') (K (.exit j) σ')
    | .ret => K .ret σ'
  | .loop c, σ, K => match cn (key c) σ with
    | none => none
    | some σ1 => iter F (fun rec σ1 => ev c σ1 fun e σ' => match e with
      | .normal => match cn (key c) σ' with
        | none => none
        | some σ2 => rec σ2
      | .exit id => K (.exit id) σ'
      | .ret => K .ret σ') σ1
  | .label _, σ, K => K .normal σ
  | .exit id, σ, K => K (.exit id) σ
  | .ret, σ, K => K .ret σ
  | _, _, _ => none

variable {E n cn F}

theorem setB_eqv {σ : St} {t : Option Nat} {b : Bool} (h : ∀ k, t = some k → look σ.sl k = some (.v (.bool b))) : Eqv (σ.setB t b) σ := by
  cases t with
  | none => exact Eqv.refl σ
  | some k =>
    refine ⟨fun j => ?_, fun _ => rfl⟩
    show look (put σ.sl k (.v (.bool b))) j = look σ.sl j
    rw [look_put]
    split
    · rename_i e; subst e; exact (h k rfl).symm
    · rfl
theorem ysv_look {ops : Array Oper} {σ : St} {g : Nat} {b : Bool} (h : ysv ops σ g = some b) : ∀ k, dstOf ops g = some k → look σ.sl k = some (.v (.bool b)) := by
  intro k hk
  unfold dstOf at hk
  unfold ysv at h
  rw [hk] at h
  simp only at h
  split at h
  · rename_i b' hb; cases h; exact hb
  · cases h

theorem evOps_runs {β : Type} (EL : ∀ (o : Oper) (ev ev' : Operand → Option SV) (fr : Nat), (∀ x ∈ o.op.operands, ev x = ev' x) → E o ev fr = E o ev' fr) {ops : Array Oper} {n0 : Nat} : ∀ (l : List Oper) (i : Nat) (σ : St) (rs : List Rec) (K : St → List Rec → Option β) (b : β), (∀ j o, l[j]? = some o → ops[i + j]? = some o) →
    evOps E n ops n0 i l σ rs K = some b → ∃ σ' L, K σ' (L.reverse ++ rs) = some b ∧ Runs E ops n0 L σ σ' ∧ L.map (·.i) = List.range' i l.length ∧ (∀ r ∈ L, dstOk n (dstOf ops r.i) = true)
  | [], i, σ, rs, K, b, _, h => ⟨σ, [], h, .nil (Eqv.refl σ), rfl, by simp⟩
  | o :: l, i, σ, rs, K, b, ho, h => by
    have hi : ops[i]? = some o := by simpa using ho 0 o rfl
    have hd : dstOf ops i = o.dst := by simp [dstOf, hi]
    have hl : ∀ j o', l[j]? = some o' → ops[i + 1 + j]? = some o' := fun j o' hj => by
      have := ho (j + 1) o' (by simpa using hj)
      rwa [show i + 1 + j = i + (j + 1) by omega]
    simp only [evOps, forceSt_eq] at h
    cases hk : dstOk n o.dst with
    | false => rw [hk] at h; cases h
    | true =>
      rw [hk] at h
      simp only [cond_true] at h
      have run : ∀ (τ : St) (hτ : Eqv τ σ) out ids, stepR E ops n0 i o τ = some (out, ids) → evOps E n ops n0 (i + 1) l (τ.app o.dst out) (⟨i, out, ids⟩ :: rs) K = some b →
          ∃ σ' L, K σ' (L.reverse ++ rs) = some b ∧ Runs E ops n0 L σ σ' ∧ L.map (·.i) = List.range' i (o :: l).length ∧ (∀ r ∈ L, dstOk n (dstOf ops r.i) = true) := by
        intro τ hτ out ids hs he
        obtain ⟨σ', L, h1, h2, h3, h4⟩ := evOps_runs EL l (i + 1) _ _ K b hl he
        refine ⟨σ', ⟨i, out, ids⟩ :: L, by simpa using h1, .cons ⟨o, hi, step_congr E ops n0 EL hs (fun t _ => (hτ.sl t).symm) (fun j _ => (hτ.hp j).symm)⟩ (by show Runs E ops n0 L (σ.app (dstOf ops i) out) σ'; rw [hd]; exact Runs.eqv E ops n0 EL h2 (hτ.symm.app _ _)), ?_, ?_⟩
        · simp only [List.map_cons, h3, List.length_cons, List.range'_succ]
        · intro r hr
          rcases List.mem_cons.1 hr with hr | hr
          · subst hr; show dstOk n (dstOf ops i) = true; rw [hd]; exact hk
          · exact h4 r hr
      have exec : ∀ (τ : St) (hτ : Eqv τ σ), (∀ out ids, (E o (evo τ) (n0 + wide * i)).run τ.hp = some (out, ids) → stepR E ops n0 i o τ = some (out, ids)) →
          ((E o (evo τ) (n0 + wide * i)).runK τ.hp [] fun out ids => evOps E n ops n0 (i + 1) l (τ.app o.dst out) (⟨i, out, ids.reverse⟩ :: rs) K) = some b →
          ∃ σ' L, K σ' (L.reverse ++ rs) = some b ∧ Runs E ops n0 L σ σ' ∧ L.map (·.i) = List.range' i (o :: l).length ∧ (∀ r ∈ L, dstOk n (dstOf ops r.i) = true) := by
        intro τ hτ hr he
        obtain ⟨out, ids, h1, h2⟩ := Rd.runK_eq _ _ _ _ _ he
        rw [List.append_nil, List.reverse_reverse] at h2
        exact run τ hτ out ids (hr _ _ h1) h2
      cases hg : o.guard with
      | none =>
        rw [hg] at h
        exact exec σ (Eqv.refl σ) (fun out ids hr => by unfold stepR; rw [hg]; exact hr) h
      | some gw =>
        obtain ⟨g, want⟩ := gw
        rw [hg] at h
        simp only at h
        cases hy : ysv ops σ g with
        | none =>
          rw [hy] at h
          simp only at h
          cases hu : yun ops σ g with
          | false => rw [hu] at h; cases h
          | true =>
            rw [hu] at h
            exact run σ (Eqv.refl σ) _ _ (by unfold stepR; rw [hg]; simp only [hy, hu, cond_true]) h
        | some c =>
          rw [hy] at h
          simp only at h
          have hτ : Eqv (σ.setB (dstOf ops g) c) σ := setB_eqv (ysv_look hy)
          have hyτ : ysv ops (σ.setB (dstOf ops g) c) g = some c := by rw [ysv_congr ops (fun t _ => hτ.sl t), hy]
          have yes : c = want → ∀ out ids, (E o (evo (σ.setB (dstOf ops g) c)) (n0 + wide * i)).run (σ.setB (dstOf ops g) c).hp = some (out, ids) → stepR E ops n0 i o (σ.setB (dstOf ops g) c) = some (out, ids) := by
            intro e out ids hr
            unfold stepR
            rw [hg]
            simp only [hyτ]
            rw [if_pos e]
            exact hr
          have no : c ≠ want → stepR E ops n0 i o (σ.setB (dstOf ops g) c) = some (⟨.v undef, []⟩, []) := by
            intro e
            unfold stepR
            rw [hg]
            simp only [hyτ]
            rw [if_neg e]
          cases want <;> cases c
          · exact exec _ hτ (yes rfl) h
          · exact run _ hτ _ _ (no (by decide)) h
          · exact run _ hτ _ _ (no (by decide)) h
          · exact exec _ hτ (yes rfl) h

theorem seq_order {ops : Array Oper} {n0 : Nat} {P : Program} {B : Nat → Prop} {w0 : World} {Q : Exit → Act → World → Prop} {ms : List Nat} {d : Bool} {σE : St}
    (hS : OpS E ops n0 P B w0 n) (hQ : ∀ ρ a w, R B w0 n σE ρ a w → Q .normal a w) :
    ∀ (L : List Rec) (σ : St) (ρ : Rho) (a : Act) (w : World), Runs E ops n0 L σ σE → R B w0 n σ ρ a w →
      (∀ r ∈ L, Fresh (loOf n0 r.i) (loOf n0 r.i + wide) σ) → allPairs ops n0 ms d L = true → wpOps P ops Q (L.map (·.i)) a w
  | [], σ, ρ, a, w, hrun, hR, _, _ => by
    cases hrun with
    | nil h => exact hQ ρ a w (hR.eqv h)
  | r :: L, σ, ρ, a, w, hrun, hR, hf, hp => by
    cases hrun with
    | cons h t =>
      simp only [allPairs, Bool.and_eq_true, List.all_eq_true] at hp
      rw [List.map_cons, wpOps_cons]
      refine hS r σ ρ a w _ Q h hR (hf r (by simp)) fun ρ' a' w' hR' => ?_
      refine seq_order hS hQ L _ ρ' a' w' t hR' (fun x hx => (hf x (by simp [hx])).app ?_) hp.2
      have := hp.1 x hx
      simp only [pairOk, Bool.and_eq_true] at this
      exact this.1

theorem edgesOk_spec : ∀ (l : List Oper) (i : Nat), edgesOk i l = true → ∀ j o, l[j]? = some o → ∀ e ∈ edges o, e < i + j
  | [], _, _, _, _, h => by simp at h
  | o :: l, i, h, j, o', hj => by
    simp only [edgesOk, Bool.and_eq_true, List.all_eq_true] at h
    cases j with
    | zero =>
      simp at hj
      subst hj
      exact fun e he => blt_lt (h.1 e he)
    | succ j =>
      intro e he
      have := edgesOk_spec l (i + 1) h.2 j o' (by simpa using hj) e he
      omega

theorem Runs.wf {ops : Array Oper} {n0 N : Nat} : ∀ {L : List Rec} {σ σ' : St}, Runs E ops n0 L σ σ' → (∀ r ∈ L, r.out.lt N = true) → (∀ t s, look σ.sl t = some s → s.lt N = true) → (∀ i o, look σ.hp i = some o → i < N ∧ o.lt N = true) →
    (∀ t s, look σ'.sl t = some s → s.lt N = true) ∧ (∀ i o, look σ'.hp i = some o → i < N ∧ o.lt N = true)
  | [], σ, σ', h, _, h1, h2 => by
    cases h with
    | nil e => exact ⟨fun t s hs => h1 t s (by rw [e.sl]; exact hs), fun i o ho => h2 i o (by rw [e.hp]; exact ho)⟩
  | r :: L, σ, σ', h, hl, h1, h2 => by
    cases h with
    | cons h t =>
      have hr := hl r (by simp)
      simp only [Out.lt, Bool.and_eq_true] at hr
      refine Runs.wf t (fun x hx => hl x (by simp [hx])) (fun t s hs => ?_) (fun i o ho => ?_)
      · unfold St.after at hs
        rw [look_app_sl] at hs
        split at hs
        · cases hs; exact hr.1
        · exact h1 t s hs
      · rcases look_puts_of _ _ _ _ ho with h' | h'
        · exact updLt_mem hr.2 _ _ h'
        · exact h2 i o h'

/-- All that code may be led to: soundness of the operations of a program. -/
structure Sound (E : Oper → (Operand → Option SV) → Nat → Rd Out) (P : Program) (B : Nat → Prop) (w0 : World) (n : Nat) : Prop where
  loc : ∀ (o : Oper) (ev ev' : Operand → Option SV) (fr : Nat), (∀ x ∈ o.op.operands, ev x = ev' x) → E o ev fr = E o ev' fr
  op : ∀ (o : Oper) (σ : St) (ρ : Rho) (a : Act) (w : World) (lo : Nat) (out : Out) (ids : List Nat), (E o (evo σ) lo).run σ.hp = some (out, ids) → R B w0 n σ ρ a w → Fresh lo (lo + wide) σ →
    Gives P o a w fun v w' => ∃ ρ', Made B ρ σ.hp w lo (lo + wide) out ρ' v w'

theorem R.app {B : Nat → Prop} {w0 w w' : World} {σ : St} {ρ ρ' : Rho} {a : Act} {lo hi : Nat} {out : Out} {v : Value} (h : R B w0 n σ ρ a w) (hf : Fresh lo hi σ) (m : Made B ρ σ.hp w lo hi out ρ' v w') (dst : Option Nat) (hd : dstOk n dst = true) :
    R B w0 n (σ.app dst out) ρ' (a.put dst v) w' := by
  have old : ∀ t s, look σ.sl t = some s → den ρ' s = den ρ s := fun t s hs => den_free m.rho s (hf.sl t s hs)
  refine ⟨?_, ?_, ?_, m.hr, h.up, h.ks.trans m.ks⟩
  · cases dst with
    | none => exact h.sz
    | some d => simp only [Act.put, Array.size_setIfInBounds]; exact h.sz
  · cases dst <;> exact h.df
  · intro t s hs
    rw [look_app_sl] at hs
    split at hs
    · rename_i e
      subst e
      cases hs
      have hlt : t < n := blt_lt hd
      have hlt' : t < a.tmps.size := by rw [h.sz]; exact hlt
      refine ⟨hlt, ?_⟩
      rw [← m.val]
      simp [Act.put, Array.getD, hlt']
    · rename_i e
      obtain ⟨h1, h2⟩ := h.sl t s hs
      refine ⟨h1, ?_⟩
      rw [old t s hs, ← h2]
      cases dst with
      | none => rfl
      | some d =>
        have hne : d ≠ t := fun x => e (by rw [x])
        simp [Act.put, Array.getElem?_setIfInBounds_ne hne]

theorem opS_of {P : Program} {B : Nat → Prop} {w0 : World} {ops : Array Oper} {n0 : Nat} (hE : Sound E P B w0 n) (hd : ∀ i, dstOk n (dstOf ops i) = true) : OpS E ops n0 P B w0 n := by
  intro r σ ρ a w K Q hs hR hf hK
  obtain ⟨o, ho, hst⟩ := hs
  have hdst : dstOf ops r.i = o.dst := by simp [dstOf, ho]
  have hdo := hd r.i
  unfold wpOp
  rw [ho]
  simp only
  have exec : ∀ (hrun : (E o (evo σ) (n0 + wide * r.i)).run σ.hp = some (r.out, r.ids)), o.wp P a w K Q := by
    intro hrun
    refine hE.op o σ ρ a w _ _ _ hrun hR hf K Q fun v w' ⟨ρ', m⟩ => ?_
    refine hK ρ' _ w' ?_
    have := hR.app hf m o.dst (by rw [← hdst]; exact hdo)
    unfold St.after
    rw [hdst]
    exact this
  unfold stepR at hst
  cases hg : o.guard with
  | none =>
    rw [hg] at hst
    rw [if_pos (by simp [Region.wanted, hg])]
    exact .inl (exec hst)
  | some gw =>
    obtain ⟨g, want⟩ := gw
    rw [hg] at hst
    simp only at hst
    have skip : Region.wanted o (yielded ops a.tmps) = false → (r.out = ⟨.v undef, []⟩) → K (a.put o.dst undef) w := by
      intro _ hout
      refine hK ρ _ w ?_
      have m : Made B ρ σ.hp w (loOf n0 r.i) (loOf n0 r.i + wide) r.out ρ undef w := by
        rw [hout]
        exact ⟨rfl, fun _ _ => rfl, hR.hr, Keeps.refl _ _⟩
      have := hR.app hf m o.dst (by rw [← hdst]; exact hdo)
      unfold St.after
      rw [hdst]
      exact this
    cases hy : ysv ops σ g with
    | none =>
      rw [hy] at hst
      simp only at hst
      cases hu : yun ops σ g with
      | false => rw [hu] at hst; cases hst
      | true =>
        rw [hu] at hst
        simp only [cond_true, Option.some.injEq, Prod.mk.injEq] at hst
        have hyl : yielded ops a.tmps g = none := by
          unfold yun at hu
          unfold yielded
          cases ht : (ops[g]?).bind (·.dst) with
          | none => rfl
          | some t =>
            rw [ht] at hu
            simp only at hu
            split at hu
            · rename_i vs hb
              obtain ⟨h1, h2⟩ := hR.sl t _ hb
              have hlt : t < a.tmps.size := by rw [hR.sz]; exact h1
              simp only [Array.getD, hlt, dif_pos, den] at h2
              show (match a.tmps[t]? with | some (.bool b) => some b | _ => none) = none
              rw [Array.getElem?_eq_getElem hlt]
              have h3 : a.tmps[t] = .tuple vs := h2
              rw [h3]
            · cases hu
        have hwf : Region.wanted o (yielded ops a.tmps) = false := by simp [Region.wanted, hg, hyl]
        rw [if_neg (by rw [hwf]; decide)]
        exact skip hwf hst.1.symm
    | some b =>
      rw [hy] at hst
      simp only at hst
      have hyl : yielded ops a.tmps g = some b := by
        unfold ysv at hy
        unfold yielded
        cases ht : (ops[g]?).bind (·.dst) with
        | none => rw [ht] at hy; cases hy
        | some t =>
          rw [ht] at hy
          simp only at hy
          split at hy
          · rename_i b' hb
            cases hy
            obtain ⟨h1, h2⟩ := hR.sl t _ hb
            have hlt : t < a.tmps.size := by rw [hR.sz]; exact h1
            simp only [Array.getD, hlt, dif_pos, den] at h2
            show (match a.tmps[t]? with | some (.bool b) => some b | _ => none) = some b
            rw [Array.getElem?_eq_getElem hlt]
            have h3 : a.tmps[t] = .bool b := h2
            rw [h3]
          · cases hy
      split at hst
      · rename_i e
        subst e
        rw [if_pos (by simp [Region.wanted, hg, hyl])]
        exact .inl (exec hst)
      · rename_i e
        rw [if_neg (by simp [Region.wanted, hg, hyl, e])]
        simp only [Option.some.injEq, Prod.mk.injEq] at hst
        refine hK ρ _ w ?_
        have m : Made B ρ σ.hp w (loOf n0 r.i) (loOf n0 r.i + wide) r.out ρ undef w := by
          rw [← hst.1]
          exact ⟨rfl, fun _ _ => rfl, hR.hr, Keeps.refl _ _⟩
        have := hR.app hf m o.dst (by rw [← hdst]; exact hdo)
        unfold St.after
        rw [hdst]
        exact this

/-- Where a run of code may be led to. -/
def Ends {β : Type} (B : Nat → Prop) (w0 : World) (n : Nat) (K : Ex → St → Option β) (b : β) : Exit → Act → World → Prop :=
  fun e' a' w' => ∃ e σ' ρ', e' = e.to ∧ K e σ' = some b ∧ Wf σ' ∧ R B w0 n σ' ρ' a' w'

theorem evReg_sound {β : Type} {P : Program} {B : Nat → Prop} {w0 : World} (hm : P.follows .mixedOrders = true) (hE : Sound E P B w0 n) (id : Nat) (ops : Array Oper) (draw : Bool) (σ : St) (K : Ex → St → Option β) (b : β)
    (h : evReg E n ops draw σ (K .normal) = some b) (ρ : Rho) (a : Act) (w : World) (hw : Wf σ) (hR : R B w0 n σ ρ a w) : (Code.region id ops draw).wp P (Ends B w0 n K b) a w := by
  obtain ⟨sl0, hp0, nx0⟩ := σ
  have h := (show evOps E n ops nx0 0 ops.toList ⟨sl0, hp0, nx0⟩ [] (fun σ' rs => cond (regOk ops nx0 draw rs.reverse) (K .normal { σ' with nx := nx0 + wide * ops.size }) none) = some b from by
    unfold evReg at h
    simp only [forceN_eq, sel] at h
    exact h)
  generalize hσ : (⟨sl0, hp0, nx0⟩ : St) = σ at *
  have hnx : σ.nx = nx0 := by rw [← hσ]
  subst hnx
  obtain ⟨σ', L, h1, h2, h3, h4⟩ := evOps_runs hE.loc ops.toList 0 σ [] _ b (fun j o hj => by simpa using hj) h
  rw [List.append_nil, List.reverse_reverse] at h1
  cases hk : regOk ops σ.nx draw L with
  | false => rw [hk] at h1; cases h1
  | true =>
    rw [hk] at h1
    simp only [cond_true] at h1
    unfold regOk at hk
    simp only [Bool.and_eq_true, List.all_eq_true] at hk
    obtain ⟨⟨hp, hed⟩, hlt⟩ := hk
    have hidx : ∀ j, j < ops.size ↔ ∃ r ∈ L, r.i = j := by
      intro j
      have : j ∈ L.map (·.i) ↔ j < ops.size := by rw [h3, List.mem_range']; simp
      rw [← this, List.mem_map]
    have hdst : ∀ i, dstOk n (dstOf ops i) = true := by
      intro i
      by_cases hi : i < ops.size
      · obtain ⟨r, hr, hri⟩ := (hidx i).1 hi
        rw [← hri]
        exact h4 r hr
      · simp [dstOf, Array.getElem?_eq_none (Nat.le_of_not_lt hi), dstOk]
    have hS := opS_of (ops := ops) (n0 := σ.nx) hE hdst
    have hfr : ∀ r ∈ L, Fresh (loOf σ.nx r.i) (loOf σ.nx r.i + wide) σ := fun r _ => hw.fresh (Nat.le_add_right _ _)
    have hN : σ.nx ≤ σ.nx + wide * ops.size := Nat.le_add_right _ _
    have hwf : Wf { σ' with nx := σ.nx + wide * ops.size } := by
      obtain ⟨k1, k2⟩ := Runs.wf h2 hlt (fun t s hs => SV.lt_mono hN s (hw.sl t s hs)) (fun i o ho => ⟨Nat.lt_of_lt_of_le (hw.hp i o ho).1 hN, AObj.lt_mono hN o (hw.hp i o ho).2⟩)
      exact ⟨k1, k2⟩
    have hQ : ∀ ρ a w, R B w0 n σ' ρ a w → Ends B w0 n K b .normal a w := fun ρ' a' w' hR' => ⟨.normal, _, ρ', rfl, h1, hwf, hR'.eqv ⟨fun _ => rfl, fun _ => rfl⟩⟩
    cases draw with
    | false =>
      refine wp_region ?_
      have := seq_order hS hQ L σ ρ a w h2 hR hfr hp
      rw [h3] at this
      rwa [List.range_eq_range', ← Array.length_toList]
    | true =>
      refine wp_region_any hm ?_
      simp only [cond_true] at hp
      have hs : L.Pairwise (fun r s => r.i < s.i) := by
        have : (L.map (·.i)).Pairwise (· < ·) := by rw [h3]; exact List.pairwise_lt_range'
        exact List.pairwise_map.1 this
      refine any_order E ops σ.nx hE.loc hS hQ rfl (fun i o ho e he => ?_) ops.size _ L σ ρ a _ (by simp) ?_ h2 hR.drew hfr hp (fun j hj => ?_) (fun r hr => (hidx r.i).2 ⟨r, hr, rfl⟩) hs ?_
      · have := edgesOk_spec ops.toList 0 (by simpa using hed) i o (by simpa using ho) e he
        omega
      · have : (L.map (·.i)).length = ops.size := by rw [h3]; simp
        simpa using Nat.le_of_eq this
      · rw [← hidx j]
        simp [Array.getD, hj]
      · intro s o hso hd
        have hlt := (Array.getElem?_eq_some_iff.1 hso).1
        have := hd hlt
        simp [Array.getD, hlt] at this

theorem iter_sound {α β : Type} {Fn : (α → Option β) → α → Option β} {S : Nat → α → Prop} {b : β} (step : ∀ k x, Fn (iter k Fn) x = some b → (∀ y, iter k Fn y = some b → S k y) → S (k + 1) x) : ∀ k x, iter k Fn x = some b → S k x
  | 0, _, h => by cases h
  | k + 1, x, h => step k x h (fun y hy => iter_sound step k y hy)

/-- What is laid aside at a loop's head. -/
def CnOk (cn : Nat → St → Option St) (B : Nat → Prop) (w0 : World) (n : Nat) : Prop :=
  ∀ k σ σ', cn k σ = some σ' → (Wf σ → Wf σ') ∧ ∀ ρ a w, R B w0 n σ ρ a w → ∃ ρ', R B w0 n σ' ρ' a w

theorem ev_sound {β : Type} {P : Program} {B : Nat → Prop} {w0 : World} (hm : P.follows .mixedOrders = true) (hE : Sound E P B w0 n) (hc : CnOk cn B w0 n) :
    ∀ (c : Code) (σ : St) (K : Ex → St → Option β) (b : β), ev E n cn F c σ K = some b → ∀ (ρ : Rho) (a : Act) (w : World), Wf σ → R B w0 n σ ρ a w → c.wp P (Ends B w0 n K b) a w
  | .skip, σ, K, b, h, ρ, a, w, hw, hR => wp_skip ⟨.normal, σ, ρ, rfl, h, hw, hR⟩
  | .region id ops draw, σ, K, b, h, ρ, a, w, hw, hR => evReg_sound hm hE id ops draw σ K b h ρ a w hw hR
  | .seq x y, σ, K, b, h, ρ, a, w, hw, hR => by
    simp only [ev] at h
    refine wp_seq (wp_mono (ev_sound hm hE hc x σ _ b h ρ a w hw hR) ?_)
    rintro e' a' w' ⟨e, σ', ρ', rfl, hk, hw', hR'⟩
    cases e with
    | normal => exact ev_sound hm hE hc y σ' K b hk ρ' a' w' hw' hR'
    | exit id => exact ⟨.exit id, σ', ρ', rfl, hk, hw', hR'⟩
    | ret => exact ⟨.ret, σ', ρ', rfl, hk, hw', hR'⟩
  | .cond c x y, σ, K, b, h, ρ, a, w, hw, hR => by
    simp only [ev, forceSt_eq] at h
    split at h
    · rename_i t ht
      have hev : a.eval c = .bool t := by rw [hR.eval c _ ht]; rfl
      have hτ : Eqv (σ.setB (tmpOf c) t) σ := setB_eqv (fun k hk => by
        cases c with
        | tmp j => cases hk; exact ht
        | _ => cases hk)
      have hwτ : Wf (σ.setB (tmpOf c) t) := by
        have hnx : (σ.setB (tmpOf c) t).nx = σ.nx := by cases c <;> rfl
        exact ⟨fun j s hs => by rw [hnx]; exact hw.sl j s (by rw [← hτ.sl]; exact hs), fun j s hs => by rw [hnx]; exact hw.hp j s (by rw [← hτ.hp]; exact hs)⟩
      cases t with
      | true => exact wp_cond_true hev (ev_sound hm hE hc x _ K b h ρ a w hwτ (hR.eqv hτ.symm))
      | false => exact wp_cond_false hev (ev_sound hm hE hc y _ K b h ρ a w hwτ (hR.eqv hτ.symm))
    · cases h
  | .block id c, σ, K, b, h, ρ, a, w, hw, hR => by
    simp only [ev] at h
    refine wp_block (wp_mono (ev_sound hm hE hc c σ _ b h ρ a w hw hR) ?_)
    rintro e' a' w' ⟨e, σ', ρ', rfl, hk, hw', hR'⟩
    cases e with
    | normal => exact ⟨.normal, σ', ρ', rfl, hk, hw', hR'⟩
    | exit j =>
      simp only at hk
      show (if j = id then Ends B w0 n K b .normal a' w' else Ends B w0 n K b (.exit j) a' w')
      by_cases e : j = id
      · rw [if_pos e]
        subst e
        rw [Nat.beq_refl] at hk
        exact ⟨.normal, σ', ρ', rfl, hk, hw', hR'⟩
      · rw [if_neg e]
        rw [beq_no e] at hk
        exact ⟨.exit j, σ', ρ', rfl, hk, hw', hR'⟩
    | ret => exact ⟨.ret, σ', ρ', rfl, hk, hw', hR'⟩
  | .loop c, σ, K, b, h, ρ, a, w, hw, hR => by
    simp only [ev] at h
    refine wp_loop_rounds F ?_
    cases hcn : cn (key c) σ with
    | none => rw [hcn] at h; cases h
    | some σ1 =>
      rw [hcn] at h
      obtain ⟨c1, c2⟩ := hc _ _ _ hcn
      obtain ⟨ρ1, hR1⟩ := c2 ρ a w hR
      refine iter_sound (S := fun k σ => ∀ ρ a w, Wf σ → R B w0 n σ ρ a w → Code.rounds P c (Ends B w0 n K b) k a w) ?_ F σ1 h ρ1 a w (c1 hw) hR1
      intro k σ0 hk ih ρ a w hw hR
      refine wp_mono (ev_sound hm hE hc c σ0 _ b hk ρ a w hw hR) ?_
      rintro e' a' w' ⟨e, σ', ρ', rfl, hk', hw', hR'⟩
      cases e with
      | normal =>
        simp only at hk'
        cases hcn' : cn (key c) σ' with
        | none => rw [hcn'] at hk'; cases hk'
        | some σ2 =>
          rw [hcn'] at hk'
          obtain ⟨d1, d2⟩ := hc _ _ _ hcn'
          obtain ⟨ρ2, hR2⟩ := d2 ρ' a' w' hR'
          exact ih σ2 hk' ρ2 a' w' (d1 hw') hR2
      | exit id => exact ⟨.exit id, σ', ρ', rfl, hk', hw', hR'⟩
      | ret => exact ⟨.ret, σ', ρ', rfl, hk', hw', hR'⟩
  | .label l, σ, K, b, h, ρ, a, w, hw, hR => wp_label ⟨.normal, σ, ρ, rfl, h, hw, hR⟩
  | .exit id, σ, K, b, h, ρ, a, w, hw, hR => wp_exit ⟨.exit id, σ, ρ, rfl, h, hw, hR⟩
  | .ret, σ, K, b, h, ρ, a, w, hw, hR => wp_ret ⟨.ret, σ, ρ, rfl, h, hw, hR⟩
  | .rangeFunc .., σ, K, b, h, _, _, _, _, _ => by cases h
  | .scope _, σ, K, b, h, _, _, _, _, _ => by cases h
  | .goto _, σ, K, b, h, _, _, _, _, _ => by cases h
  | .refuse _, σ, K, b, h, _, _, _, _, _ => by cases h

end
end Go.Proofs.Ytcheokphnhjomaa.Ax
