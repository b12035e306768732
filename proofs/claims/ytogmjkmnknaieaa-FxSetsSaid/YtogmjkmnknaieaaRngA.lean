/- Code in pieces: operations told by hand beside the evaluator's; a heap's thing seen another way. -/
import Derived.Test.YtogmjkmnknaieaaAx21
import Derived.Maps.RangeRun
namespace Go.Proofs.Ytogmjkmnknaieaa.Ax
open Go Go.RowKit
set_option linter.unusedVariables false
set_option linter.unusedSimpArgs false
section
variable {P : Program} {C : FuncId → Option Con} {cn : Nat → St → Option St} {E : Oper → (Operand → Option SV) → Nat → Rd Out} {n : Nat}
def Kn (S : List Nat) (p : Nat) (e : Ex) (σ : St) : Option St := match e with
  | .normal => gcSt S p σ
  | _ => none
theorem chunk {B : Nat → Prop} {w0 : Base} {F : Nat} (hm : P.follows .mixedOrders = true) (hE : Sound E P B w0 n) (hc : CnOk cn B w0 n) {c : Code} {S : List Nat} {p : Nat} (hp : w0.pin ≤ p) {σ σ' : St} (h : ev E n cn F c σ (Kn S p) = some σ')
    {Q : Exit → Act → World → Prop} {ρ : Rho} {a : Act} {w : World} (hw : Wf w0.pin σ) (hR : R B w0 n σ ρ a w) (hQ : ∀ ρ' a' w', Wf w0.pin σ' → R B w0 n σ' ρ' a' w' → Q .normal a' w') : c.wp P Q a w := by
  refine wp_mono (ev_sound hm hE hc c σ _ _ h ρ a w hw hR) ?_
  rintro e' a' w' ⟨e, s, ρ', rfl, hk, hw', hR'⟩
  cases e with
  | normal =>
    obtain ⟨h1, h2⟩ := gcSt_ok (B := B) (n := n) hp hk
    obtain ⟨ρ2, hR2⟩ := h2 _ _ _ hR'
    exact hQ ρ2 a' w' h1 hR2
  | exit id => cases hk
  | ret => cases hk
def effX (P : Program) (C : FuncId → Option Con) (X : Oper → (Operand → Option SV) → Nat → Option (Rd Out)) (o : Oper) (ev : Operand → Option SV) (fr : Nat) : Rd Out := match X o ev fr with
  | some r => r
  | none => eff P C o ev fr
theorem effX_sound {B : Nat → Prop} {w0 : Base} {X : Oper → (Operand → Option SV) → Nat → Option (Rd Out)} (hC : ∀ g φ, C g = some φ → ConOk P B g φ)
    (hl : ∀ (o : Oper) (ev ev' : Operand → Option SV) (fr : Nat), (∀ x ∈ o.op.operands, ev x = ev' x) → X o ev fr = X o ev' fr)
    (hX : ∀ (o : Oper) (σ : St) (ρ : Rho) (a : Act) (w : World) (lo : Nat) (out : Out) (ids : List Nat) (r : Rd Out), X o (evo σ) lo = some r → r.run σ.hp = some (out, ids) → R B w0 n σ ρ a w → Fresh lo (lo + wide) σ →
      Gives P o a w fun v w' => ∃ ρ', Made B ρ σ.hp w lo (lo + wide) out ρ' v w') : Sound (effX P C X) P B w0 n := by
  have hS := eff_sound (P := P) (C := C) (B := B) (w0 := w0) (n := n) hC
  refine ⟨fun o ev ev' fr h => ?_, fun o σ ρ a w lo out ids hr hR hf => ?_⟩
  · unfold effX
    rw [hl o ev ev' fr h, hS.loc o ev ev' fr h]
  · unfold effX at hr
    cases hx : X o (evo σ) lo with
    | none => rw [hx] at hr; exact hS.op o σ ρ a w lo out ids hr hR hf
    | some r => rw [hx] at hr; exact hX o σ ρ a w lo out ids r hx hr hR hf
noncomputable def cdec (p : Prop) : Bool := @decide p (Classical.propDecidable p)
theorem cdec_true {p : Prop} : cdec p = true ↔ p := @decide_eq_true_iff p (Classical.propDecidable p)
noncomputable def rngX (P : Program) (bm : Nat) (es : Array MapEntry) (clock : Nat) (o : Oper) (ev : Operand → Option SV) (fr : Nat) : Option (Rd Out) := match o.op with
  | .range t x => some (match P.underlying t with
    | some (.map _ _) => w1 (ev x) fun s => match s with
      | .map 1 => .obj 1 fun ob => match ob with
        | .raw m => .br (cdec (m = .map es clock)) (.ret ⟨.ptr fr 0, [(fr, .raw (.mapIter (some bm) clock #[] clock))]⟩) .fail
        | _ => .fail
      | _ => .fail
    | _ => .fail)
  | _ => none
theorem rng_sound {B : Nat → Prop} {w0 : Base} {bm : Nat} {es : Array MapEntry} {clock : Nat} (hp : 1 < w0.pin) (hb : (w0.ρ 1).blk = bm) (hC : ∀ g φ, C g = some φ → ConOk P B g φ) : Sound (effX P C (rngX P bm es clock)) P B w0 n := by
  refine effX_sound hC (fun o ev ev' fr h => ?_) (fun o σ ρ a w lo out ids r hx hr hR hf => ?_)
  · unfold rngX
    split
    · rename_i t x ho
      rw [ho] at h
      rw [h x (by simp [Op.operands])]
    · rfl
  · unfold rngX at hx
    split at hx
    · rename_i t x ho
      cases hx
      split at hr
      · rename_i kt et hu
        obtain ⟨s, hs, hr⟩ := w1_run hr
        split at hr
        · obtain ⟨ob, ids', hl, hr⟩ := obj_run hr
          split at hr
          · rename_i m
            obtain ⟨hm, hr2⟩ := br_run (h := σ.hp) hr
            clear hr
            have hm := cdec_true.1 hm
            subst hm
            have := ret_run (h := σ.hp) hr2
            subst this
            obtain ⟨k1, k2, k3⟩ := hR.hr.ok _ _ hl
            have hbm : (ρ 1).blk = bm := by rw [hR.pn 1 hp]; exact hb
            rw [hbm] at k3
            have e := hR.eval x _ hs
            have hrun := run_range_map (P := P) w t kt et bm es clock hu k3
            obtain ⟨w', hw'⟩ : ∃ w', w' = w.alloc (.mapIter (some bm) clock #[] clock) := ⟨_, rfl⟩
            rw [← hw'] at hrun
            have hold : ∀ b, b < w.heap.size → w'.heap[b]? = w.heap[b]? := fun b hb => by rw [hw']; exact Below.heap_alloc w _ b hb
            have up : ∀ b, w.heap.size ≤ b → B b := fun b hb => hR.up b (Nat.le_trans hR.ks.size hb)
            have md := made_new (B := B) (lo := lo) (hi := lo + wide) (s := .ptr lo 0) (o := .raw (.mapIter (some bm) clock #[] clock)) (L := ⟨w.heap.size, 0, 0, 0, false, none⟩) hR.hr hf.hp (by unfold wide; omega) up (w' := w')
              ⟨by rw [hw']; rfl, by rw [hw']; rfl, by rw [hw']; rfl, by rw [hw']; simp, fun b hb => hold b (by
                rcases Nat.lt_or_ge b w.heap.size with h' | h'
                · exact h'
                · exact absurd (up b h') hb)⟩
              hold rfl (fun _ => Nat.le_refl _) ⟨rfl, rfl, by rw [hw']; exact heap_alloc_new w _⟩
            refine Gives.value (w' := w') (v := den (setRho ρ lo ⟨w.heap.size, 0, 0, 0, false, none⟩) (.ptr lo 0)) ?_ ⟨_, md⟩
            unfold execOp
            simp only [ho, e, den, hbm, Sem.run_bind, hrun, Result.andThen_ok, Sem.run_pure, setRho_same, Nat.add_zero]
          · cases hr
        · cases hr
      · cases hr
    · cases hx
noncomputable def entX {ks vs : List Sc} (it m : Obj) (k : TT ks) (v : TT vs) (o : Oper) (ev : Operand → Option SV) (fr : Nat) : Option (Rd Out) := match o.op with
  | .entry x => some (w1 (ev x) fun s => match s with
    | .ptr id 0 => .obj id fun ob => match ob with
      | .raw i => .br (cdec (i = it)) (.obj 1 fun ob => match ob with
        | .raw m' => .br (cdec (m' = m)) (.ret ⟨.tup [.agg ((enc ks k).map SV.v), .agg ((enc vs v).map SV.v)], []⟩) .fail
        | _ => .fail) .fail
      | _ => .fail
    | _ => .fail)
  | _ => none
theorem ent_sound {B : Nat → Prop} {w0 : Base} {ks vs : List Sc} {bm since : Nat} {seen : Array Nat} {es : Array MapEntry} {clock : Nat} {e : MapEntry} {k : TT ks} {v : TT vs} (hp : 1 < w0.pin) (hb : (w0.ρ 1).blk = bm) (hC : ∀ g φ, C g = some φ → ConOk P B g φ)
    (he : e ∈ es.toList) (hn : (es.toList.map (·.born)).Nodup) (hk : ent ks vs (k, v) = (e.key, e.val)) : Sound (effX P C (entX (.mapIter (some bm) since (seen.push e.born) clock) (.map es clock) k v)) P B w0 n := by
  refine effX_sound hC (fun o ev ev' fr h => ?_) (fun o σ ρ a w lo out ids r hx hr hR hf => ?_)
  · unfold entX
    split
    · rename_i x ho
      rw [ho] at h
      rw [h x (by simp [Op.operands])]
    · rfl
  · unfold entX at hx
    split at hx
    · rename_i x ho
      cases hx
      obtain ⟨s, hs, hr⟩ := w1_run hr
      split at hr
      · rename_i id
        obtain ⟨ob, ids', hl, hr⟩ := obj_run hr
        split at hr
        · rename_i i
          obtain ⟨hi, hr2⟩ := br_run (h := σ.hp) hr
          clear hr
          have hi := cdec_true.1 hi
          subst hi
          obtain ⟨ob, ids', hl1, hr⟩ := obj_run hr2
          clear hr2
          split at hr
          · rename_i m'
            obtain ⟨hm, hr2⟩ := br_run (h := σ.hp) hr
            clear hr
            have hm := cdec_true.1 hm
            subst hm
            have := ret_run (h := σ.hp) hr2
            subst this
            obtain ⟨k1, k2, k3⟩ := hR.hr.ok _ _ hl
            obtain ⟨j1, j2, j3⟩ := hR.hr.ok _ _ hl1
            have hbm : (ρ 1).blk = bm := by rw [hR.pn 1 hp]; exact hb
            rw [hbm] at j3
            have ee := hR.eval x _ hs
            have hrun := run_entry_at (P := P) w (ρ id).blk bm since seen es clock e k3 j3 he hn
            have hkk := congrArg Prod.fst hk
            have hvv := congrArg Prod.snd hk
            simp only [ent] at hkk hvv
            refine Gives.value (w' := w) (v := den ρ (.tup [.agg ((enc ks k).map SV.v), .agg ((enc vs v).map SV.v)])) ?_ ⟨_, made_pure hR.hr⟩
            unfold execOp
            simp only [ho, ee, den, denL, map_v, k2, hkk, hvv, Nat.add_zero, Sem.run_bind, hrun, Result.andThen_ok, Sem.run_pure]
          · cases hr
        · cases hr
      · cases hr
    · cases hx
end
theorem HR_swap {B : Nat → Prop} {ρ : Rho} {h : Hp} {w : World} {i : Nat} {o o' : AObj} (hr : HR B ρ h w) (ho : look h i = some o) (h1 : o.own = true) (h2 : o'.own = true) (hok : OK ρ w (ρ i) o') : HR B ρ (put h i o') w := by
  have lk : ∀ j x, look (put h i o') j = some x → (j = i ∧ x = o') ∨ (j ≠ i ∧ look h j = some x) := by
    intro j x hx
    rw [look_put] at hx
    split at hx
    · rename_i e; cases hx; exact .inl ⟨e.symm, rfl⟩
    · rename_i e; exact .inr ⟨fun e' => e e'.symm, hx⟩
  refine ⟨fun j x hx => ?_, fun j x hx hw hn => ?_, fun j x hx hs hn => ?_, fun j j' x y hx hy hw hw' hn hn' hjj => ?_⟩
  · rcases lk j x hx with ⟨rfl, rfl⟩ | ⟨_, hx⟩
    · exact hok
    · exact hr.ok j x hx
  · rcases lk j x hx with ⟨rfl, rfl⟩ | ⟨_, hx⟩
    · exact hr.inB _ _ ho h1 hn
    · exact hr.inB j x hx hw hn
  · rcases lk j x hx with ⟨rfl, rfl⟩ | ⟨_, hx⟩
    · cases x <;> first | (cases h2; done) | (cases hs; done)
    · exact hr.arg j x hx hs hn
  · have own : ∀ j x, look (put h i o') j = some x → x.own = true → ∃ z, look h j = some z ∧ z.own = true := by
      intro j x hx hw
      rcases lk j x hx with ⟨rfl, rfl⟩ | ⟨_, hx⟩
      · exact ⟨_, ho, h1⟩
      · exact ⟨_, hx, hw⟩
    obtain ⟨z, hz, hzw⟩ := own j x hx hw
    obtain ⟨z', hz', hzw'⟩ := own j' y hy hw'
    exact hr.inj j j' z z' hz hz' hzw hzw' hn hn' hjj
end Go.Proofs.Ytogmjkmnknaieaa.Ax
