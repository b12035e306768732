/- AX 13: a loop's head: chosen slots, names numbered anew, what is not reached laid aside. -/
import Derived.Test.YtcheokphnhjomaaAx12
namespace Go.Proofs.Ytcheokphnhjomaa.Ax
open Go Go.RowKit
set_option linter.unusedVariables false
set_option linter.unusedSimpArgs false

mutual
def SV.ids (p : Nat → Bool) : SV → Bool
  | .v _ => true
  | .ptr id _ | .elt id _ _ _ | .slc id _ _ _ _ | .all id | .map id => p id
  | .fn _ fi ca => idsL p fi && idsL p ca
  | .agg l | .tup l => idsL p l
def idsL (p : Nat → Bool) : List SV → Bool
  | [] => true
  | s :: l => SV.ids p s && idsL p l
end
mutual
theorem den_ids {ρ ρ' : Rho} {p : Nat → Bool} (h : ∀ i, p i = true → ρ' i = ρ i) : ∀ s : SV, s.ids p = true → den ρ' s = den ρ s
  | .v _, _ => rfl
  | .ptr id _, hs => by simp only [den]; rw [h id hs]
  | .elt id _ _ _, hs => by simp only [den]; rw [h id hs]
  | .slc id _ _ _ _, hs => by simp only [den]; rw [h id hs]
  | .all id, hs => by simp only [den]; rw [h id hs]
  | .map id, hs => by simp only [den]; rw [h id hs]
  | .fn _ fi ca, hs => by
    simp only [SV.ids, Bool.and_eq_true] at hs
    simp only [den]; rw [denL_ids h fi hs.1, denL_ids h ca hs.2]
  | .agg l, hs => by simp only [den]; rw [denL_ids h l hs]
  | .tup l, hs => by simp only [den]; rw [denL_ids h l hs]
theorem denL_ids {ρ ρ' : Rho} {p : Nat → Bool} (h : ∀ i, p i = true → ρ' i = ρ i) : ∀ l : List SV, idsL p l = true → denL ρ' l = denL ρ l
  | [], _ => rfl
  | s :: l, hs => by
    simp only [idsL, Bool.and_eq_true] at hs
    simp only [denL]; rw [den_ids h s hs.1, denL_ids h l hs.2]
end
def renO (m : Nat → Nat) : AObj → AObj
  | .cells t c => .cells t (renL m c)
  | .ro t c => .ro t (renL m c)
  | o => o
def AObj.ids (p : Nat → Bool) : AObj → Bool
  | .cells _ c | .ro _ c => idsL p c
  | _ => true

/-! The names that a value bears. -/
mutual
def SV.names : SV → List Nat
  | .v _ => []
  | .ptr id _ | .elt id _ _ _ | .slc id _ _ _ _ | .all id | .map id => [id]
  | .fn _ fi ca => namesL fi ++ namesL ca
  | .agg l | .tup l => namesL l
def namesL : List SV → List Nat
  | [] => []
  | s :: l => SV.names s ++ namesL l
end
def AObj.names : AObj → List Nat
  | .cells _ c | .ro _ c => namesL c
  | _ => []
/-- What is reached: pairs of the old name and the new one. -/
def gcGo (hp : Hp) (pin : Nat) : Nat → List Nat → Nat → List (Nat × Nat) → List (Nat × Nat)
  | 0, _, _, acc => acc
  | _ + 1, [], _, acc => acc
  | f + 1, i :: l, n, acc =>
    cond (Nat.blt i pin) (gcGo hp pin f l n acc) (match look acc i with
      | some _ => gcGo hp pin f l n acc
      | none => match look hp i with
        | none => gcGo hp pin f l n acc
        | some o => gcGo hp pin f (l ++ o.names) (n + 1) (acc ++ [(i, n)]))
def pins (pin : Nat) : Hp → List (Nat × Nat)
  | [] => []
  | (i, _) :: l => cond (Nat.blt i pin) ((i, i) :: pins pin l) (pins pin l)
def pinNames (pin : Nat) : Hp → List Nat
  | [] => []
  | (i, o) :: l => cond (Nat.blt i pin) (o.names ++ pinNames pin l) (pinNames pin l)

def fwd (L : List (Nat × Nat)) (i : Nat) : Nat := match look L i with
  | some j => j
  | none => 0
def swapL : List (Nat × Nat) → List (Nat × Nat)
  | [] => []
  | (i, j) :: l => (j, i) :: swapL l
def bak (L : List (Nat × Nat)) (j : Nat) : Nat := match look (swapL L) j with
  | some i => i
  | none => 0
def slotsOf (σ : St) (m : Nat → Nat) : List Nat → Option (List (Nat × SV))
  | [] => some []
  | t :: l => match look σ.sl t with
    | none => none
    | some s => match slotsOf σ m l with
      | none => none
      | some r => some ((t, ren m s) :: r)
def heapOf (hp : Hp) (m : Nat → Nat) : List (Nat × Nat) → Hp
  | [] => []
  | (i, j) :: l => (j, match look hp i with
    | some o => renO m o
    | none => .dead) :: heapOf hp m l
def valsOf (σ : St) : List Nat → List Nat
  | [] => []
  | t :: l => match look σ.sl t with
    | none => valsOf σ l
    | some s => s.names ++ valsOf σ l
def slotIds (p : Nat → Bool) : List (Nat × SV) → Bool
  | [] => true
  | (_, s) :: l => s.ids p && slotIds p l
def chkSl (σ : St) (p : Nat → Bool) : List Nat → Bool
  | [] => true
  | t :: l => (match look σ.sl t with
    | none => false
    | some s => s.ids p) && chkSl σ p l
def chkL (L : List (Nat × Nat)) (hp : Hp) (N : Nat) (p : Nat → Bool) : List (Nat × Nat) → Bool
  | [] => true
  | (i, j) :: l => Nat.beq (fwd L i) j && Nat.beq (bak L j) i && Nat.blt j N && (match look hp i with
    | some o => o.ids p
    | none => true) && chkL L hp N p l

def gcSt (S : List Nat) (pin : Nat) (σ : St) : Option St :=
  let L := pins pin σ.hp ++ gcGo σ.hp pin 1000 (valsOf σ S ++ pinNames pin σ.hp) pin []
  let N := pin + L.length
  let p := fun i => Nat.beq (bak L (fwd L i)) i && Nat.blt (fwd L i) N
  cond (chkSl σ p S && chkL L σ.hp N p L) (match slotsOf σ (fwd L) S with
    | none => none
    | some sl => some ⟨sl, heapOf σ.hp (fwd L) L, N⟩) none

theorem slotsOf_look {σ : St} {m : Nat → Nat} : ∀ {S : List Nat} {r : List (Nat × SV)}, slotsOf σ m S = some r → ∀ t s, look r t = some s → ∃ s0, t ∈ S ∧ look σ.sl t = some s0 ∧ s = ren m s0
  | [], r, h, t, s, hs => by cases h; cases hs
  | t' :: S, r, h, t, s, hs => by
    simp only [slotsOf] at h
    cases h1 : look σ.sl t' with
    | none => rw [h1] at h; cases h
    | some s1 =>
      rw [h1] at h
      cases h2 : slotsOf σ m S with
      | none => rw [h2] at h; cases h
      | some r' =>
        rw [h2] at h
        cases h
        simp only [look] at hs
        by_cases e : t' = t
        · subst e
          rw [Nat.beq_refl] at hs
          cases hs
          exact ⟨s1, by simp, h1, rfl⟩
        · rw [beq_no e] at hs
          obtain ⟨s0, k1, k2, k3⟩ := slotsOf_look h2 t s hs
          exact ⟨s0, by simp [k1], k2, k3⟩
theorem heapOf_look {hp : Hp} {m : Nat → Nat} : ∀ {L : List (Nat × Nat)} {j : Nat} {o : AObj}, look (heapOf hp m L) j = some o → ∃ i, (i, j) ∈ L ∧ ((∃ o0, look hp i = some o0 ∧ o = renO m o0) ∨ o = .dead)
  | [], _, _, h => by cases h
  | (i, j') :: L, j, o, h => by
    simp only [heapOf, look] at h
    by_cases e : j' = j
    · subst e
      rw [Nat.beq_refl] at h
      refine ⟨i, by simp, ?_⟩
      cases ho : look hp i with
      | none => rw [ho] at h; cases h; exact .inr rfl
      | some o0 => rw [ho] at h; cases h; exact .inl ⟨o0, rfl, rfl⟩
    · rw [beq_no e] at h
      obtain ⟨i', h1, h2⟩ := heapOf_look h
      exact ⟨i', by simp [h1], h2⟩
theorem chkSl_spec {σ : St} {p : Nat → Bool} : ∀ {S : List Nat}, chkSl σ p S = true → ∀ t ∈ S, ∀ s, look σ.sl t = some s → s.ids p = true
  | [], _, _, h, _, _ => by cases h
  | t' :: S, h, t, ht, s, hs => by
    simp only [chkSl, Bool.and_eq_true] at h
    rcases List.mem_cons.1 ht with ht | ht
    · subst ht; rw [hs] at h; exact h.1
    · exact chkSl_spec h.2 t ht s hs
theorem chkL_spec {L0 : List (Nat × Nat)} {hp : Hp} {N : Nat} {p : Nat → Bool} : ∀ {L : List (Nat × Nat)}, chkL L0 hp N p L = true → ∀ i j, (i, j) ∈ L → fwd L0 i = j ∧ bak L0 j = i ∧ j < N ∧ (∀ o, look hp i = some o → o.ids p = true)
  | [], _, _, _, h => by cases h
  | (i', j') :: L, h, i, j, hm => by
    simp only [chkL, Bool.and_eq_true] at h
    obtain ⟨⟨⟨⟨h1, h2⟩, h3⟩, h4⟩, h5⟩ := h
    rcases List.mem_cons.1 hm with hm | hm
    · cases hm
      exact ⟨Nat.eq_of_beq_eq_true h1, Nat.eq_of_beq_eq_true h2, blt_lt h3, fun o ho => by rw [ho] at h4; exact h4⟩
    · exact chkL_spec h5 i j hm
mutual
theorem ren_lt {m : Nat → Nat} {N : Nat} {p : Nat → Bool} (hp : ∀ i, p i = true → m i < N) : ∀ s : SV, s.ids p = true → (ren m s).lt N = true
  | .v _, _ => rfl
  | .ptr id _, hs => lt_blt (hp id hs)
  | .elt id _ _ _, hs => lt_blt (hp id hs)
  | .slc id _ _ _ _, hs => lt_blt (hp id hs)
  | .all id, hs => lt_blt (hp id hs)
  | .map id, hs => lt_blt (hp id hs)
  | .fn _ fi ca, hs => by
    simp only [SV.ids, Bool.and_eq_true] at hs
    simp only [ren, SV.lt, renL_lt hp fi hs.1, renL_lt hp ca hs.2, Bool.and_true]
  | .agg l, hs => renL_lt hp l hs
  | .tup l, hs => renL_lt hp l hs
theorem renL_lt {m : Nat → Nat} {N : Nat} {p : Nat → Bool} (hp : ∀ i, p i = true → m i < N) : ∀ l : List SV, idsL p l = true → ltL N (renL m l) = true
  | [], _ => rfl
  | s :: l, hs => by
    simp only [idsL, Bool.and_eq_true] at hs
    simp only [renL, ltL, ren_lt hp s hs.1, renL_lt hp l hs.2, Bool.and_true]
end

theorem gcSt_ok {B : Nat → Prop} {w0 : World} {n : Nat} {S : List Nat} {pin : Nat} {σ σ' : St} (h : gcSt S pin σ = some σ') : (Wf σ → Wf σ') ∧ ∀ ρ a w, R B w0 n σ ρ a w → ∃ ρ', R B w0 n σ' ρ' a w := by
  unfold gcSt at h
  simp only at h
  generalize hL : pins pin σ.hp ++ gcGo σ.hp pin 1000 (valsOf σ S ++ pinNames pin σ.hp) pin [] = L at h
  generalize hN : pin + L.length = N at h
  cases hc : (chkSl σ (fun i => Nat.beq (bak L (fwd L i)) i && Nat.blt (fwd L i) N) S && chkL L σ.hp N (fun i => Nat.beq (bak L (fwd L i)) i && Nat.blt (fwd L i) N) L) with
  | false => rw [hc] at h; cases h
  | true =>
    rw [hc] at h
    simp only [cond_true] at h
    simp only [Bool.and_eq_true] at hc
    obtain ⟨c1, c2⟩ := hc
    cases hs : slotsOf σ (fwd L) S with
    | none => rw [hs] at h; cases h
    | some sl =>
      rw [hs] at h
      cases h
      have hp1 : ∀ i, (Nat.beq (bak L (fwd L i)) i && Nat.blt (fwd L i) N) = true → bak L (fwd L i) = i ∧ fwd L i < N := fun i hi => by
        simp only [Bool.and_eq_true] at hi
        exact ⟨Nat.eq_of_beq_eq_true hi.1, blt_lt hi.2⟩
      have spec := chkL_spec c2
      refine ⟨fun _ => ⟨fun t s hts => ?_, fun j o ho => ?_⟩, fun ρ a w hR => ⟨fun j => ρ (bak L j), ?_⟩⟩
      · obtain ⟨s0, k1, k2, k3⟩ := slotsOf_look hs t s hts
        subst k3
        exact ren_lt (fun i hi => (hp1 i hi).2) s0 (chkSl_spec c1 t k1 s0 k2)
      · obtain ⟨i, k1, k2⟩ := heapOf_look ho
        obtain ⟨e1, e2, e3, e4⟩ := spec i j k1
        refine ⟨e3, ?_⟩
        rcases k2 with ⟨o0, h1, h2⟩ | h2
        · subst h2
          have := e4 o0 h1
          cases o0 <;> first | rfl | exact renL_lt (fun i hi => (hp1 i hi).2) _ this
        · subst h2; rfl
      · have denO : ∀ c : List SV, idsL (fun i => Nat.beq (bak L (fwd L i)) i && Nat.blt (fwd L i) N) c = true → denL (fun j => ρ (bak L j)) (renL (fwd L) c) = denL ρ c := fun c hc => by
          rw [denL_ren]
          exact denL_ids (fun i hi => by rw [(hp1 i hi).1]) c hc
        have okO : ∀ i o0, look σ.hp i = some o0 → o0.ids (fun i => Nat.beq (bak L (fwd L i)) i && Nat.blt (fwd L i) N) = true → OK (fun j => ρ (bak L j)) w (ρ i) (renO (fwd L) o0) := by
          intro i o0 ho hi
          have hk := hR.hr.ok i o0 ho
          cases o0 with
          | dead => trivial
          | cells ty c => exact ⟨hk.1, hk.2.1, by rw [denO c hi]; exact hk.2.2⟩
          | ro ty c => exact ⟨hk.1, hk.2.1, by rw [denO c hi]; exact hk.2.2⟩
          | row ty s l => exact hk
          | arg s l => exact hk
        have own : ∀ o : AObj, (renO (fwd L) o).own = o.own := fun o => by cases o <;> rfl
        have shd : ∀ o : AObj, (renO (fwd L) o).shared = o.shared := fun o => by cases o <;> rfl
        refine ⟨hR.sz, hR.df, fun t s hts => ?_, ⟨fun j o ho => ?_, fun j o ho hown hn => ?_, fun j o ho hsh hn => ?_, fun j j' o o' ho ho' hown hown' hn hn' hjj => ?_⟩, hR.up, hR.ks⟩
        · obtain ⟨s0, k1, k2, k3⟩ := slotsOf_look hs t s hts
          subst k3
          obtain ⟨e1, e2⟩ := hR.sl t s0 k2
          refine ⟨e1, ?_⟩
          rw [e2, den_ren]
          exact (den_ids (fun i hi => by rw [(hp1 i hi).1]) s0 (chkSl_spec c1 t k1 s0 k2)).symm
        · obtain ⟨i, k1, k2⟩ := heapOf_look ho
          obtain ⟨e1, e2, e3, e4⟩ := spec i j k1
          rcases k2 with ⟨o0, h1, h2⟩ | h2
          · subst h2
            show OK _ w (ρ (bak L j)) _
            rw [e2]
            exact okO i o0 h1 (e4 o0 h1)
          · subst h2; trivial
        · obtain ⟨i, k1, k2⟩ := heapOf_look ho
          obtain ⟨e1, e2, e3, e4⟩ := spec i j k1
          rcases k2 with ⟨o0, h1, h2⟩ | h2
          · subst h2
            rw [own] at hown
            show B (ρ (bak L j)).blk
            rw [e2] at hn ⊢
            exact hR.hr.inB i o0 h1 hown hn
          · subst h2; cases hown
        · obtain ⟨i, k1, k2⟩ := heapOf_look ho
          obtain ⟨e1, e2, e3, e4⟩ := spec i j k1
          rcases k2 with ⟨o0, h1, h2⟩ | h2
          · subst h2
            rw [shd] at hsh
            show ¬ B (ρ (bak L j)).blk
            rw [e2] at hn ⊢
            exact hR.hr.arg i o0 h1 hsh hn
          · subst h2; cases hsh
        · obtain ⟨i, k1, k2⟩ := heapOf_look ho
          obtain ⟨i', k1', k2'⟩ := heapOf_look ho'
          obtain ⟨e1, e2, e3, e4⟩ := spec i j k1
          obtain ⟨e1', e2', e3', e4'⟩ := spec i' j' k1'
          rcases k2 with ⟨o0, h1, h2⟩ | h2
          · rcases k2' with ⟨o0', h1', h2'⟩ | h2'
            · subst h2; subst h2'
              rw [own] at hown hown'
              show (ρ (bak L j)).blk ≠ (ρ (bak L j')).blk
              rw [e2] at hn ⊢
              rw [e2'] at hn' ⊢
              exact hR.hr.inj i i' o0 o0' h1 h1' hown hown' hn hn' (fun e => hjj (by rw [← e1, ← e1', e]))
            · subst h2'; cases hown'
          · subst h2; cases hown

/-- A table: for a loop's key its slots. -/
def cnOf (pin : Nat) (T : Nat → Option (List Nat)) (k : Nat) (σ : St) : Option St := match T k with
  | none => some σ
  | some S => match gcSt S pin σ with
    | none => none
    | some σ' => forceSt σ' some
theorem cnOf_ok {pin : Nat} {T : Nat → Option (List Nat)} {B : Nat → Prop} {w0 : World} {n : Nat} : CnOk (cnOf pin T) B w0 n := by
  intro k σ σ' h
  unfold cnOf at h
  split at h
  · cases h; exact ⟨fun h => h, fun ρ a w hR => ⟨ρ, hR⟩⟩
  · split at h
    · cases h
    · rename_i σ1 hg
      rw [forceSt_eq] at h
      cases h
      exact gcSt_ok hg

end Go.Proofs.Ytcheokphnhjomaa.Ax
