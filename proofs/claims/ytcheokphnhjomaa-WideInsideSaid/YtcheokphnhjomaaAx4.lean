/- AX 4: a region whose order is open, and one whose order is the text's: soundness over the soundness of one operation. -/
import Derived.Test.YtcheokphnhjomaaAx3
namespace Go.Proofs.Ytcheokphnhjomaa.Ax
open Go Go.RowKit
set_option linter.unusedVariables false
set_option linter.unusedSimpArgs false

/-- What must stand ahead of an operation: its edges that bind. -/
def edges (o : Oper) : List Nat := (o.after.toList.filter (Region.binds .any)).map (·.on)
/-- Masks: bit r of mask s: r stands ahead of s, by a chain of edges. -/
def maskOf (ms : List Nat) : List Nat → Nat
  | [] => 0
  | e :: l => (1 <<< e) ||| (ms.getD e 0) ||| maskOf ms l
def masks : List Oper → List Nat → List Nat
  | [], ms => ms
  | o :: l, ms => masks l (ms ++ [maskOf ms (edges o)])

/-- A set of what is done is closed downward. -/
def Closed (ops : Array Oper) (done : Nat → Prop) : Prop := ∀ s o, ops[s]? = some o → done s → ∀ e ∈ edges o, done e

theorem maskOf_bit {ms : List Nat} {done : Nat → Prop} (hm : ∀ s m r, ms[s]? = some m → done s → m.testBit r = true → done r) : ∀ (l : List Nat), (∀ e ∈ l, done e) → ∀ r, (maskOf ms l).testBit r = true → done r
  | [], _, r, h => by simp [maskOf] at h
  | e :: l, hd, r, h => by
    simp only [maskOf, Nat.testBit_or, Bool.or_eq_true] at h
    rcases h with (h | h) | h
    · rw [Nat.one_shiftLeft, Nat.testBit_two_pow] at h
      have : e = r := by simpa using h
      subst this
      exact hd e (by simp)
    · cases hg : ms[e]? with
      | none =>
        rw [List.getD_eq_getElem?_getD, hg] at h
        simp at h
      | some m =>
        rw [List.getD_eq_getElem?_getD, hg] at h
        exact hm e m r hg (hd e (by simp)) h
    · exact maskOf_bit hm l (fun x hx => hd x (by simp [hx])) r h

theorem masks_spec {ops : Array Oper} {done : Nat → Prop} (hc : Closed ops done) : ∀ (l : List Oper) (ms : List Nat), (∀ s m r, ms[s]? = some m → done s → m.testBit r = true → done r) → (∀ j o, l[j]? = some o → ops[ms.length + j]? = some o) →
    ∀ s m r, (masks l ms)[s]? = some m → done s → m.testBit r = true → done r
  | [], ms, hm, _ => hm
  | o :: l, ms, hm, ho => by
    refine masks_spec hc l _ ?_ ?_
    · intro s m r hs hd hb
      by_cases hlt : s < ms.length
      · rw [List.getElem?_append_left hlt] at hs
        exact hm s m r hs hd hb
      · by_cases he : s = ms.length
        · subst he
          simp at hs
          subst hs
          exact maskOf_bit hm _ (hc _ o (by simpa using ho 0 o rfl) hd) r hb
        · rw [List.getElem?_eq_none (by simp; omega)] at hs
          cases hs
    · intro j o' hj
      have := ho (j + 1) o' (by simpa using hj)
      rwa [List.length_append, show ms.length + [maskOf ms (edges o)].length + j = ms.length + (j + 1) by simp; omega]

section
variable (E : Oper → (Operand → Option SV) → Nat → Rd Out) (ops : Array Oper) (n0 : Nat)

def loOf (n0 i : Nat) : Nat := n0 + wide * i

/-- The steps of a region, held against each other: no later one's names in an earlier one; where the order is open: what is not ahead may change places. -/
def pairOk (ops : Array Oper) (n0 : Nat) (ms : List Nat) (draw : Bool) (r s : Rec) : Bool :=
  r.out.free (loOf n0 s.i) (loOf n0 s.i + wide) &&
    (!draw || Nat.testBit (ms.getD s.i 0) r.i || (apartR ops r s && s.out.free (loOf n0 r.i) (loOf n0 r.i + wide)))
def allPairs (ops : Array Oper) (n0 : Nat) (ms : List Nat) (draw : Bool) : List Rec → Bool
  | [] => true
  | r :: l => l.all (pairOk ops n0 ms draw r) && allPairs ops n0 ms draw l
def edgesOk : Nat → List Oper → Bool
  | _, [] => true
  | i, o :: l => (edges o).all (fun e => Nat.blt e i) && edgesOk (i + 1) l

variable (EL : ∀ (o : Oper) (ev ev' : Operand → Option SV) (fr : Nat), (∀ x ∈ o.op.operands, ev x = ev' x) → E o ev fr = E o ev' fr)

include EL in
theorem runs_front {r : Rec} : ∀ {L M : List Rec} {σ σ' : St}, (∀ x ∈ L, apartR ops x r = true) → Runs E ops n0 (L ++ r :: M) σ σ' → Runs E ops n0 (r :: (L ++ M)) σ σ'
  | [], M, σ, σ', _, h => h
  | x :: L, M, σ, σ', ha, h => by
    cases h with
    | cons h1 h2 =>
      have h3 := runs_front (fun y hy => ha y (by simp [hy])) h2
      exact runs_swap E ops n0 EL (ha x (by simp)) (.cons h1 h3)

/-- One operation is sound. -/
def OpS (P : Program) (B : Nat → Prop) (w0 : World) (n : Nat) : Prop :=
  ∀ (r : Rec) (σ : St) (ρ : Rho) (a : Act) (w : World) (K : Act → World → Prop) (Q : Exit → Act → World → Prop), Step E ops n0 σ r → R B w0 n σ ρ a w → Fresh (loOf n0 r.i) (loOf n0 r.i + wide) σ →
    (∀ ρ' a' w', R B w0 n (σ.after ops r) ρ' a' w' → K a' w') → wpOp P ops Q r.i K a w

theorem R.eqv {B : Nat → Prop} {w0 w : World} {n : Nat} {σ σ' : St} {ρ : Rho} {a : Act} (h : R B w0 n σ ρ a w) (e : Eqv σ σ') : R B w0 n σ' ρ a w :=
  ⟨h.sz, h.df, fun t s hs => h.sl t s (by rw [e.sl]; exact hs),
    ⟨fun i o ho => h.hr.ok i o (by rw [e.hp]; exact ho), fun i o ho => h.hr.inB i o (by rw [e.hp]; exact ho), fun i o ho => h.hr.arg i o (by rw [e.hp]; exact ho),
      fun i j o o' ho ho' => h.hr.inj i j o o' (by rw [e.hp]; exact ho) (by rw [e.hp]; exact ho')⟩, h.up, h.ks⟩
theorem R.drew {B : Nat → Prop} {w0 w : World} {n : Nat} {σ : St} {ρ : Rho} {a : Act} (h : R B w0 n σ ρ a w) : R B w0 n σ ρ a { w with drawn := w.drawn + 1 } :=
  ⟨h.sz, h.df, h.sl, ⟨fun i o ho => (h.hr.ok i o ho).keep (fun _ _ _ => rfl) (fun _ => rfl) (Nat.le_refl _), h.hr.inB, h.hr.arg, h.hr.inj⟩, h.up, h.ks.drew⟩

include EL in
theorem any_order {P : Program} {B : Nat → Prop} {w0 : World} {n : Nat} {Q : Exit → Act → World → Prop} {ms : List Nat} {σE : St}
    (hS : OpS E ops n0 P B w0 n) (hQ : ∀ ρ a w, R B w0 n σE ρ a w → Q .normal a w) (hms : ms = masks ops.toList [])
    (he : ∀ i o, ops[i]? = some o → ∀ e ∈ edges o, e < i) :
    ∀ (fuel : Nat) (listed : Array Bool) (L : List Rec) (σ : St) (ρ : Rho) (a : Act) (w : World), listed.size = ops.size → L.length ≤ fuel → Runs E ops n0 L σ σE → R B w0 n σ ρ a w →
      (∀ r ∈ L, Fresh (loOf n0 r.i) (loOf n0 r.i + wide) σ) → allPairs ops n0 ms true L = true →
      (∀ j, j < ops.size → (listed.getD j true = false ↔ ∃ r ∈ L, r.i = j)) → (∀ r ∈ L, r.i < ops.size) → L.Pairwise (fun r s => r.i < s.i) →
      Closed ops (fun j => j < ops.size → listed.getD j true = true) →
      wpAny P .any ops Q fuel listed a w := by
  have pairs : ∀ (L : List Rec), allPairs ops n0 ms true L = true → L.Pairwise (fun r s => pairOk ops n0 ms true r s = true) := by
    intro L
    induction L with
    | nil => intro _; exact .nil
    | cons r L ih =>
      intro h
      simp only [allPairs, Bool.and_eq_true, List.all_eq_true] at h
      exact .cons h.1 (ih h.2)
  have back : ∀ (L : List Rec), L.Pairwise (fun r s => pairOk ops n0 ms true r s = true) → allPairs ops n0 ms true L = true := by
    intro L h
    induction h with
    | nil => rfl
    | cons h1 h2 ih =>
      simp only [allPairs, Bool.and_eq_true, List.all_eq_true]
      exact ⟨h1, ih⟩
  intro fuel
  induction fuel with
  | zero =>
    intro listed L σ ρ a w hsz hlen hrun hR hfr hp hl hb hs hc
    have hL : L = [] := List.eq_nil_of_length_eq_zero (by omega)
    subst hL
    cases hrun with
    | nil h =>
      refine ⟨?_, hQ ρ a w (hR.eqv h)⟩
      rw [List.eq_nil_iff_forall_not_mem]
      intro j hj
      obtain ⟨h1, o, ho, _⟩ := mem_ready.1 hj
      have hjl := (Array.getElem?_eq_some_iff.1 ho).1
      obtain ⟨r, hr, _⟩ := (hl j hjl).1 h1
      cases hr
  | succ fuel ih =>
    intro listed L σ ρ a w hsz hlen hrun hR hfr hp hl hb hs hc
    refine ⟨fun hnil => ?_, fun j hj => ?_⟩
    · cases L with
      | nil => cases hrun with | nil h => exact hQ ρ a w (hR.eqv h)
      | cons r L =>
        exfalso
        have hri := hb r (by simp)
        obtain ⟨o, ho⟩ : ∃ o, ops[r.i]? = some o := ⟨_, Array.getElem?_eq_getElem hri⟩
        have : r.i ∈ Region.ready .any ops listed := mem_ready.2 ⟨(hl r.i hri).2 ⟨r, by simp, rfl⟩, o, ho, fun e hem hbd => by
          have hlt : e.on < r.i := he r.i o ho e.on (List.mem_map.2 ⟨e, List.mem_filter.2 ⟨by simpa using hem, hbd⟩, rfl⟩)
          have hlt' : e.on < ops.size := by omega
          cases hx : listed.getD e.on true with
          | true =>
            have hin : e.on < listed.size := by omega
            simp only [Array.getD, hin, dif_pos] at hx ⊢
            exact hx
          | false =>
            obtain ⟨s, hsm, hse⟩ := (hl e.on hlt').1 hx
            rcases List.mem_cons.1 hsm with h | h
            · subst h; omega
            · have := (List.pairwise_cons.1 hs).1 s h
              omega⟩
        rw [hnil] at this
        cases this
    · obtain ⟨h1, o, ho, hpre⟩ := mem_ready.1 hj
      have hjl := (Array.getElem?_eq_some_iff.1 ho).1
      obtain ⟨r, hr, hrj⟩ := (hl j hjl).1 h1
      obtain ⟨L1, L2, hLL⟩ := List.append_of_mem hr
      subst hLL
      have hpw := pairs _ hp
      rw [List.pairwise_append] at hpw
      obtain ⟨p1, p2, p3⟩ := hpw
      have hpw2 := hs
      rw [List.pairwise_append] at hpw2
      obtain ⟨q1, q2, q3⟩ := hpw2
      -- nothing of L1 is ahead of r
      have hun : ∀ x ∈ L1, apartR ops x r = true ∧ r.out.free (loOf n0 x.i) (loOf n0 x.i + wide) = true := by
        intro x hx
        have hok := p3 x hx r (by simp)
        simp only [pairOk, Bool.and_eq_true, Bool.or_eq_true, Bool.not_true, Bool.false_eq_true, false_or] at hok
        rcases hok.2 with hbit | hok
        · exfalso
          have hdone : ∀ s m q, (masks ops.toList [])[s]? = some m → (s < ops.size → listed.getD s true = true) → m.testBit q = true → (q < ops.size → listed.getD q true = true) :=
            masks_spec hc ops.toList [] (fun s m q hs => by cases hs) (fun k o' hk => by simpa using hk)
          have hmk : maskOf (masks ops.toList []) (edges o) = maskOf (masks ops.toList []) (edges o) := rfl
          have hx1 : listed.getD x.i true = false := (hl x.i (hb x (by simp [hx]))).2 ⟨x, by simp [hx], rfl⟩
          -- the mask of r is the mask of its edges, all of which are done
          have key : ∀ q, (ms.getD r.i 0).testBit q = true → (q < ops.size → listed.getD q true = true) := by
            have gen : ∀ (l : List Oper) (acc : List Nat), (∀ k o', l[k]? = some o' → ops[acc.length + k]? = some o') → (∀ s m q, acc[s]? = some m → (s < ops.size → listed.getD s true = true) ∨ s = j → m.testBit q = true → (q < ops.size → listed.getD q true = true)) →
                ∀ s m q, (masks l acc)[s]? = some m → ((s < ops.size → listed.getD s true = true) ∨ s = j) → m.testBit q = true → (q < ops.size → listed.getD q true = true) := by
              intro l
              induction l with
              | nil => intro acc _ hm; exact hm
              | cons o' l ihl =>
                intro acc hop hm
                refine ihl _ ?_ ?_
                · intro k o'' hk
                  have := hop (k + 1) o'' (by simpa using hk)
                  rwa [List.length_append, show acc.length + [maskOf acc (edges o')].length + k = acc.length + (k + 1) by simp; omega]
                · intro s m q hsm hor hbt
                  by_cases hlt : s < acc.length
                  · rw [List.getElem?_append_left hlt] at hsm
                    exact hm s m q hsm hor hbt
                  · by_cases heq : s = acc.length
                    · subst heq
                      simp at hsm
                      subst hsm
                      have hthis : ops[acc.length]? = some o' := by simpa using hop 0 o' rfl
                      refine maskOf_bit (done := fun z => z < ops.size → listed.getD z true = true) (fun s' m' r' h1' h2' h3' => hm s' m' r' h1' (.inl h2') h3') _ ?_ q hbt
                      rcases hor with hor | hor
                      · exact hc _ o' hthis hor
                      · intro e hem hel
                        have hoo : o' = o := by rw [hor] at hthis; rw [ho] at hthis; exact (Option.some.inj hthis).symm
                        subst hoo
                        obtain ⟨ed, hed, rfl⟩ := List.mem_map.1 hem
                        obtain ⟨hed1, hed2⟩ := List.mem_filter.1 hed
                        have hg := hpre ed (by simpa using hed1) hed2
                        have hin : ed.on < listed.size := by omega
                        simp only [Array.getD, hin, dif_pos] at hg ⊢
                        exact hg
                    · rw [List.getElem?_eq_none (by simp; omega)] at hsm
                      cases hsm
            intro q hq
            rw [hms, List.getD_eq_getElem?_getD] at hq
            cases hg : (masks ops.toList [])[r.i]? with
            | none => rw [hg] at hq; simp at hq
            | some m =>
              rw [hg] at hq
              exact gen ops.toList [] (fun k o' hk => by simpa using hk) (fun s m q hs => by cases hs) r.i m q hg (.inr hrj) hq
          have := key x.i hbit (hb x (by simp [hx]))
          rw [hx1] at this
          cases this
        · exact hok
      have hrun' := runs_front E ops n0 EL (fun x hx => (hun x hx).1) hrun
      cases hrun' with
      | cons hstep htail =>
        subst hrj
        refine hS r σ ρ a w _ Q hstep hR (hfr r (by simp)) fun ρ' a' w' hR' => ?_
        have hset : ∀ k, k < ops.size → (listed.setIfInBounds r.i true).getD k true = (if r.i = k then true else listed.getD k true) := by
          intro k hk
          have hk' : k < listed.size := by omega
          by_cases e : r.i = k
          · subst e
            simp [Array.getD, hk']
          · rw [if_neg e, getD_set_ne true e]
        refine ih _ (L1 ++ L2) (σ.after ops r) ρ' a' w' (by simpa using hsz) (by simp at hlen ⊢; omega) htail hR' ?_ (back _ ?_) ?_ ?_ ?_ ?_
        · intro x hx
          rcases List.mem_append.1 hx with hx | hx
          · exact (hfr x (by simp [hx])).app (hun x hx).2
          · refine (hfr x (by simp [hx])).app ?_
            have := (List.pairwise_cons.1 p2).1 x hx
            simp only [pairOk, Bool.and_eq_true] at this
            exact this.1
        · exact List.pairwise_append.2 ⟨p1, (List.pairwise_cons.1 p2).2, fun x hx y hy => p3 x hx y (by simp [hy])⟩
        · intro k hk
          rw [hset k hk]
          by_cases e : r.i = k
          · rw [if_pos e]
            refine ⟨(fun h => by cases h), fun ⟨x, hx, hxk⟩ => ?_⟩
            rcases List.mem_append.1 hx with hx | hx
            · have := q3 x hx r (by simp); omega
            · have := (List.pairwise_cons.1 q2).1 x hx; omega
          · rw [if_neg e, hl k hk]
            refine ⟨fun ⟨x, hx, hxk⟩ => ?_, fun ⟨x, hx, hxk⟩ => ⟨x, ?_, hxk⟩⟩
            · rcases List.mem_append.1 hx with hx | hx
              · exact ⟨x, by simp [hx], hxk⟩
              · rcases List.mem_cons.1 hx with hx | hx
                · subst hx; exact absurd hxk e
                · exact ⟨x, by simp [hx], hxk⟩
            · rcases List.mem_append.1 hx with hx | hx
              · simp [hx]
              · simp [hx]
        · intro x hx
          exact hb x (by rcases List.mem_append.1 hx with hx | hx <;> simp [hx])
        · exact List.pairwise_append.2 ⟨q1, (List.pairwise_cons.1 q2).2, fun x hx y hy => q3 x hx y (by simp [hy])⟩
        · intro s os hos hd e hem hel
          rw [hset e hel]
          by_cases e1 : r.i = e
          · rw [if_pos e1]
          · rw [if_neg e1]
            have hsl := (Array.getElem?_eq_some_iff.1 hos).1
            have hd' := hd hsl
            rw [hset s hsl] at hd'
            by_cases e2 : r.i = s
            · subst e2
              rw [ho] at hos
              cases hos
              obtain ⟨ed, hed, rfl⟩ := List.mem_map.1 hem
              obtain ⟨hed1, hed2⟩ := List.mem_filter.1 hed
              have hg := hpre ed (by simpa using hed1) hed2
              have hin : ed.on < listed.size := by omega
              simp only [Array.getD, hin, dif_pos] at hg ⊢
              exact hg
            · rw [if_neg e2] at hd'
              exact hc s os hos (fun _ => hd') e hem hel

end
end Go.Proofs.Ytcheokphnhjomaa.Ax
