/- A region that draws its order and only reads, within a round of a loop over a function: one walk of the order in which it is written serves. -/
import Derived.Sort.BigQuietIn
namespace Go.Proofs.Ytbmapmigiokbcaa.Rq
open Go
set_option linter.unusedVariables false
set_option linter.unusedSimpArgs false
section
variable {F : Fence} {n : Nat} {P : Program} {ops : Array Oper} {md : Region.Mode} {C : World → Prop}
theorem quietUponIn_semAt {ro : Option Nat} {o : Oper} {a : Act} {w : World} {v : Value} (h : o.quietAtIn F n P a C w v) : (o.semAt ro a.eval).run P w = (execOp a.eval o).run P w := by
  cases ro with
  | none => rfl
  | some l =>
    by_cases hd : ∃ c, o.op = .defer c
    · obtain ⟨c, hc⟩ := hd
      exfalso
      unfold Oper.quietAtIn at h
      have : execOp a.eval o = (do let d ← resolve a.eval c o.type; pure (.defer d) : Sem Next) := by unfold execOp; rw [hc]
      rw [this] at h
      simp only [Sem.run_bind, Sem.run_pure] at h
      cases hr : (resolve a.eval c o.type).run P w with
      | ok d w' => rw [hr] at h; simp [Result.andThen, Oper.quietUponIn] at h
      | halt x w' => rw [hr] at h; simp [Result.andThen, Oper.quietUponIn] at h
    · exact congrArg (fun s => s.run P w) (Oper.semAt_eq _ _ _ (fun c hc => hd ⟨c, hc⟩))
theorem wpIn_of_quietR {o : Oper} {a : Act} {K : Act → Prop} {K' : Act → World → Prop} {Q' : Exit → Act → World → Prop} {w : World} (hw : C w) (h : ∀ a w', C w' → K a → K' a w')
    (ha : o.askedIn F P a C) (hh : o.quietIn F n P a C K) : o.wpIn F n P a w K' Q' := by
  obtain ⟨v, h1, h2⟩ := hh
  have h3 := h1 w hw
  unfold Oper.wpIn
  refine ⟨ha w hw, ?_⟩
  rw [quietUponIn_semAt h3]
  unfold Oper.quietAtIn at h3
  generalize (execOp a.eval o).run P w = r at *
  cases r with
  | ok x w' =>
    cases x <;> simp only [Oper.quietUponIn] at h3 <;> simp only [Oper.uponIn]
    case value u =>
      obtain ⟨e1, e2⟩ := h3
      rw [e1, e2]
      exact h _ _ hw h2
    case skip =>
      obtain ⟨e1, e2⟩ := h3
      rw [e1, ← e2]
      exact h _ _ hw h2
    case enter f args =>
      obtain ⟨e1, hd, hc⟩ := h3
      rw [e1]
      exact ⟨hd, hc.mono fun e w'' ⟨he, hw''⟩ => by subst he; exact h _ _ hw'' h2⟩
  | halt x w' => simp only [Oper.quietUponIn] at h3
theorem wpOpIn_of_qOpInR {i : Nat} {a : Act} {K : Act → Prop} {K' : Act → World → Prop} {Q' : Exit → Act → World → Prop} {w : World} (hC : C w) (h : ∀ a w', C w' → K a → K' a w')
    (hh : qOpIn F n P ops C i K a) : wpOpIn F n P ops Q' i K' a w := by
  unfold qOpIn at hh
  unfold wpOpIn
  split
  · rename_i ho; simp only [ho] at hh; exact h _ _ hC hh
  · rename_i o ho
    simp only [ho] at hh
    obtain ⟨ha, hh⟩ := hh
    split
    · rename_i hw; simp only [hw, if_true] at hh; exact wpIn_of_quietR hC h ha hh
    · rename_i hw; simp only [hw] at hh; exact ⟨ha w hC, h _ _ hC hh⟩
theorem wpAnyIn_of_quietR {Q : Act → Prop} {Q' : Exit → Act → World → Prop} (hQ : ∀ a w, C w → Q a → Q' .normal a w) : ∀ (fuel : Nat) (listed : Array Bool) (a : Act) (w : World), C w →
    wpAnyQIn F n P md ops C Q fuel listed a → wpAnyIn F n P md ops Q' fuel listed a w
  | 0, _, _, _, hw, h => ⟨h.1, hQ _ _ hw h.2⟩
  | fuel + 1, _, _, _, hw, h => ⟨fun h0 => hQ _ _ hw (h.1 h0), fun i hi => wpOpIn_of_qOpInR hw (fun a' w' hw' => wpAnyIn_of_quietR hQ fuel _ a' w' hw') (h.2 i hi)⟩
theorem wpIn_region_quietR {id : Nat} {Q : Exit → Act → World → Prop} {a : Act} {w : World} {l : List Oper} (hm : P.follows .mixedOrders = true) (hB : Region.lexB .any l.toArray = true)
    (h : wpQuietIn F n P l.toArray (fun w' => ∃ n, w' = w.drewN n) (fun a' => ∀ w', (∃ n, w' = w.drewN n) → Q .normal a' w') l a) : (Code.region id l.toArray true).wpIn F n P Q a w := by
  simp only [Region.lexB, Bool.and_eq_true] at hB
  refine wpIn_region_any hm (wpAnyIn_of_quietR (C := fun w' => ∃ n, w' = w.drewN n) (Q := fun a' => ∀ w', (∃ n, w' = w.drewN n) → Q .normal a' w') (fun _ w' hw' h => h w' hw') _ _ _ _ ⟨1, rfl⟩ ?_)
  have := wpAnyQIn_lex (F := F) (n := n) (C := fun w' => ∃ n, w' = w.drewN n) (md := .any) hB.1 l 0 (Array.replicate l.toArray.size false) a (by simp) (by simpa using hB.2) h
  simpa using this
def lastOK (md : Region.Mode) (ops : List Oper) (o : Oper) : Bool :=
  (List.range ops.length).all (fun i => o.after.any fun e => Region.binds md e && e.on == i) && (o.after.all (fun e => !Region.binds md e || decide (e.on < ops.length)) &&
    ((List.range ops.length).all (fun i => match ops[i]? with | some p => p.after.all (fun e => !Region.binds md e || decide (e.on < i)) | none => true) && (o.dst.isNone && o.guard.isNone)))
theorem getD_push (A : Array Bool) (j : Nat) : (A.push false).getD j false = A.getD j false := by
  by_cases h : j < A.size
  · simp [Array.getD, h, Nat.lt_succ_of_lt h, Array.getElem_push_lt]
  · by_cases h2 : j = A.size
    · subst h2; simp [Array.getD]
    · have : ¬ j < A.size + 1 := by omega
      simp [Array.getD, h, this]
theorem getD_push_t (A : Array Bool) (j : Nat) (h : j < A.size) : (A.push false).getD j true = A.getD j true := by
  simp [Array.getD, h, Nat.lt_succ_of_lt h, Array.getElem_push_lt]
theorem yielded_push {ops : List Oper} {o : Oper} (ho : o.dst = none) (t : Array Value) : yielded (ops ++ [o]).toArray t = yielded ops.toArray t := by
  funext j
  unfold yielded
  by_cases h : j < ops.length
  · simp [List.getElem?_append_left h]
  · by_cases h2 : j = ops.length
    · subst h2; simp [ho]
    · have : (ops ++ [o])[j]? = none := List.getElem?_eq_none (by simp; omega)
      have h3 : ops[j]? = none := List.getElem?_eq_none (by omega)
      simp [this, h3]
variable {l : List Oper} {o : Oper}
theorem all_listed (hl : lastOK md l o = true) {A : Array Bool} (hr : Region.ready md l.toArray A = []) : ∀ i, i < l.length → A.getD i true = true := by
  intro i
  induction i using Nat.strongRecOn with
  | _ i ih =>
    intro hi
    cases hA : A.getD i true with
    | true => rfl
    | false =>
      exfalso
      have : i ∈ Region.ready md l.toArray A := by
        rw [mem_ready]
        refine ⟨hA, l[i], by simp [hi], fun e he hb => ?_⟩
        simp only [lastOK, Bool.and_eq_true, List.all_eq_true, List.mem_range] at hl
        have h3 := hl.2.2.1 i hi
        rw [List.getElem?_eq_getElem hi] at h3
        have h4 := Array.all_eq_true'.1 h3 e he
        rw [hb] at h4
        have h5 : e.on < i := by simpa using h4
        have h6 := ih e.on h5 (by omega)
        have h7 : e.on < A.size := by
          rcases Nat.lt_or_ge i A.size with h | h
          · omega
          · simp [Array.getD, Nat.not_lt.2 h] at hA
        simp only [Array.getD, h7, dif_pos] at h6 ⊢
        exact h6
      rw [hr] at this
      cases this
theorem last_ready (hl : lastOK md l o = true) {A : Array Bool} (hs : A.size = l.length) (h : l.length ∈ Region.ready md (l ++ [o]).toArray (A.push false)) : ∀ i, i < l.length → A.getD i true = true := by
  intro i hi
  rw [mem_ready] at h
  obtain ⟨_, p, hp, hall⟩ := h
  have hp : p = o := by simpa using hp.symm
  subst hp
  simp only [lastOK, Bool.and_eq_true, List.all_eq_true, List.mem_range] at hl
  obtain ⟨e, he, h1⟩ := Array.any_eq_true'.1 (hl.1 i hi)
  rw [Bool.and_eq_true] at h1
  have h2 := hall e he h1.1
  have h3 : e.on = i := by simpa using h1.2
  rw [h3, getD_push] at h2
  have h7 : i < A.size := by omega
  simp only [Array.getD, h7, dif_pos] at h2 ⊢
  exact h2
theorem ready_push (hl : lastOK md l o = true) {A : Array Bool} (hs : A.size = l.length) {i : Nat} (h : i ∈ Region.ready md (l ++ [o]).toArray (A.push false)) : i = l.length ∨ (i < l.length ∧ i ∈ Region.ready md l.toArray A) := by
  rw [mem_ready] at h
  obtain ⟨h0, p, hp, hall⟩ := h
  rcases Nat.lt_trichotomy i l.length with hi | hi | hi
  · refine .inr ⟨hi, ?_⟩
    rw [mem_ready]
    refine ⟨by rw [getD_push_t _ _ (by omega)] at h0; exact h0, p, by simpa [List.getElem?_append_left hi] using hp, fun e he hb => by have := hall e he hb; rwa [getD_push] at this⟩
  · exact .inl hi
  · exfalso
    have : (l ++ [o])[i]? = none := List.getElem?_eq_none (by simp; omega)
    simp [this] at hp
theorem ready_none (hl : lastOK md l o = true) {A : Array Bool} (hs : A.size = l.length) (h : ∀ i, i < l.length → A.getD i true = true) : Region.ready md (l ++ [o]).toArray ((A.push false).setIfInBounds l.length true) = [] := by
  cases hr : Region.ready md (l ++ [o]).toArray ((A.push false).setIfInBounds l.length true) with
  | nil => rfl
  | cons i r =>
    exfalso
    have hi : i ∈ Region.ready md (l ++ [o]).toArray ((A.push false).setIfInBounds l.length true) := by rw [hr]; exact List.mem_cons_self
    rw [mem_ready] at hi
    obtain ⟨h0, p, hp, _⟩ := hi
    have hi : i < l.length + 1 := by
      rcases Nat.lt_or_ge i (l.length + 1) with h | h
      · exact h
      · have : (l ++ [o])[i]? = none := List.getElem?_eq_none (by simp; omega)
        simp [this] at hp
    by_cases e : i = l.length
    · subst e; simp [Array.getD, hs] at h0
    · have h1 := h i (by omega)
      have : ((A.push false).setIfInBounds l.length true).getD i true = A.getD i true := by
        rw [← getD_push_t A i (by omega)]
        exact getD_set_ne true (fun e' => e e'.symm)
      rw [this, h1] at h0
      cases h0
theorem ready_last (hl : lastOK md l o = true) {A : Array Bool} (hs : A.size = l.length) (h : ∀ i, i < l.length → A.getD i true = true) : l.length ∈ Region.ready md (l ++ [o]).toArray (A.push false) := by
  rw [mem_ready]
  refine ⟨by simp [Array.getD, hs, Array.getElem_push], o, by simp, fun e he hb => ?_⟩
  simp only [lastOK, Bool.and_eq_true, List.all_eq_true, List.mem_range] at hl
  have h4 := Array.all_eq_true'.1 hl.2.1 e he
  rw [hb] at h4
  have h5 : e.on < l.length := by simpa using h4
  have h6 := h e.on h5
  rw [getD_push]
  have h7 : e.on < A.size := by omega
  simp only [Array.getD, h7, dif_pos] at h6 ⊢
  exact h6
theorem wpOp_last {Q' : Exit → Act → World → Prop} {K : Act → World → Prop} {a : Act} {w : World} (hl : lastOK md l o = true) (h : o.wpIn F n P a w K Q') : wpOpIn F n P (l ++ [o]).toArray Q' l.length K a w := by
  have hg : o.guard = none := by
    simp only [lastOK, Bool.and_eq_true] at hl
    exact Option.isNone_iff_eq_none.1 hl.2.2.2.2
  unfold wpOpIn
  have : (l ++ [o]).toArray[l.length]? = some o := by simp
  rw [this]
  simp only [Region.wanted, hg]
  simpa using h
theorem any_of_quiet_last {Q : Act → Prop} {Q' : Exit → Act → World → Prop} (hl : lastOK md l o = true) (hQ : ∀ a w, C w → Q a → o.wpIn F n P a w (fun a w => Q' .normal a w) Q') : ∀ (fuel : Nat) (A : Array Bool) (a : Act) (w : World), A.size = l.length → C w →
    wpAnyQIn F n P md l.toArray C Q fuel A a → wpAnyIn F n P md (l ++ [o]).toArray Q' (fuel + 1) (A.push false) a w := by
  have hd : o.dst = none := by
    simp only [lastOK, Bool.and_eq_true] at hl
    exact Option.isNone_iff_eq_none.1 hl.2.2.2.1
  intro fuel
  induction fuel with
  | zero =>
    intro A a w hs hw h
    have hall := all_listed hl h.1
    have hlast := ready_last hl hs hall
    refine ⟨fun h0 => (by rw [h0] at hlast; cases hlast), fun i hi => ?_⟩
    rcases ready_push hl hs hi with rfl | ⟨_, h1⟩
    · exact wpOp_last hl (Oper.wpIn_mono (fun a w h => ⟨ready_none hl hs hall, h⟩) (hQ a w hw h.2))
    · rw [h.1] at h1; cases h1
  | succ fuel ih =>
    intro A a w hs hw h
    refine ⟨fun h0 => ?_, fun i hi => ?_⟩
    · exfalso
      have hr0 : Region.ready md l.toArray A = [] := by
        cases hr : Region.ready md l.toArray A with
        | nil => rfl
        | cons i r =>
          exfalso
          have hi : i ∈ Region.ready md l.toArray A := by rw [hr]; exact List.mem_cons_self
          have : i ∈ Region.ready md (l ++ [o]).toArray (A.push false) := by
            rw [mem_ready] at hi ⊢
            obtain ⟨g0, p, hp, hall⟩ := hi
            have hil : i < l.length := by
              have := (Array.getElem?_eq_some_iff.1 hp).1
              simpa using this
            exact ⟨by rw [getD_push_t _ _ (by omega)]; exact g0, p, by simpa [List.getElem?_append_left hil] using hp, fun e he hb => by rw [getD_push]; exact hall e he hb⟩
          rw [h0] at this
          cases this
      have := ready_last hl hs (all_listed hl hr0)
      rw [h0] at this
      cases this
    · rcases ready_push hl hs hi with rfl | ⟨hil, h1⟩
      · have hall := last_ready hl hs hi
        have hr0 : Region.ready md l.toArray A = [] := by
          cases hr : Region.ready md l.toArray A with
          | nil => rfl
          | cons i r =>
            exfalso
            have hi : i ∈ Region.ready md l.toArray A := by rw [hr]; exact List.mem_cons_self
            rw [mem_ready] at hi
            obtain ⟨g0, p, hp, _⟩ := hi
            have hil : i < l.length := by
              have := (Array.getElem?_eq_some_iff.1 hp).1
              simpa using this
            rw [hall i hil] at g0
            cases g0
        refine wpOp_last hl (Oper.wpIn_mono (fun a w h => ?_) (hQ a w hw (h.1 hr0)))
        have hn := ready_none hl hs hall
        refine ⟨fun _ => h, fun i hi => ?_⟩
        rw [hn] at hi
        cases hi
      · have h2 := h.2 i h1
        have hstep : ∀ a' w', C w' → wpAnyQIn F n P md l.toArray C Q fuel (A.setIfInBounds i true) a' → wpAnyIn F n P md (l ++ [o]).toArray Q' (fuel + 1) ((A.push false).setIfInBounds i true) a' w' := by
          intro a' w' hw' h'
          have := ih (A.setIfInBounds i true) a' w' (by simpa using hs) hw' h'
          have e : (A.setIfInBounds i true).push false = (A.push false).setIfInBounds i true := by
            apply Array.ext'
            rw [Array.toList_push, Array.toList_setIfInBounds, Array.toList_setIfInBounds, Array.toList_push, List.set_append_left _ _ (by simpa [hs] using hil)]
          rwa [e] at this
        unfold qOpIn at h2
        unfold wpOpIn
        have e1 : (l ++ [o]).toArray[i]? = l.toArray[i]? := by simp [List.getElem?_append_left hil]
        rw [e1]
        split
        · rename_i ho; simp only [ho] at h2; exact hstep _ _ hw h2
        · rename_i p ho
          simp only [ho] at h2
          rw [yielded_push hd]
          obtain ⟨ha, h2⟩ := h2
          split
          · rename_i hwt; simp only [hwt, if_true] at h2; exact wpIn_of_quietR hw hstep ha h2
          · rename_i hwt; simp only [hwt] at h2; exact ⟨ha w hw, hstep _ _ hw h2⟩
theorem wpIn_region_last {id : Nat} {Q : Exit → Act → World → Prop} {a : Act} {w : World} (hm : P.follows .mixedOrders = true) (hl : lastOK .any l o = true) (hB : Region.lexB .any l.toArray = true)
    (h : wpQuietIn F n P l.toArray (fun w' => ∃ n, w' = w.drewN n) (fun a' => ∀ w', (∃ n, w' = w.drewN n) → o.wpIn F n P a' w' (fun a w => Q .normal a w) Q) l a) : (Code.region id (l ++ [o]).toArray true).wpIn F n P Q a w := by
  simp only [Region.lexB, Bool.and_eq_true] at hB
  refine wpIn_region_any hm ?_
  have h1 := wpAnyQIn_lex (F := F) (n := n) (C := fun w' => ∃ n, w' = w.drewN n) (md := .any) hB.1 l 0 (Array.replicate l.toArray.size false) a (by simp) (by simpa using hB.2) h
  have h2 := any_of_quiet_last (Q := fun a' => ∀ w', (∃ n, w' = w.drewN n) → o.wpIn F n P a' w' (fun a w => Q .normal a w) Q) (Q' := Q) hl (fun a w' hw' h => h w' hw') l.length (Array.replicate l.toArray.size false) a { w with drawn := w.drawn + 1 } (by simp) ⟨1, rfl⟩ h1
  have e : (l ++ [o]).toArray.size = l.length + 1 := by simp
  have e2 : Array.replicate (l.length + 1) false = (Array.replicate l.toArray.size false).push false := by
    apply Array.ext
    · simp
    · intro i h1 h2; simp [Array.getElem_push]
  rw [e, e2]
  exact h2
theorem wpIn_region_last2 {id : Nat} {Q : Exit → Act → World → Prop} {a : Act} {w : World} {ops : List Oper} (hm : P.follows .mixedOrders = true) (he : ops.getLast? = some o) (hl : lastOK .any ops.dropLast o = true) (hB : Region.lexB .any ops.dropLast.toArray = true)
    (h : wpQuietIn F n P ops.dropLast.toArray (fun w' => ∃ n, w' = w.drewN n) (fun a' => ∀ w', (∃ n, w' = w.drewN n) → o.wpIn F n P a' w' (fun a w => Q .normal a w) Q) ops.dropLast a) : (Code.region id ops.toArray true).wpIn F n P Q a w := by
  have h1 := wpIn_region_last (id := id) hm hl hB h
  have e : ops.dropLast ++ [o] = ops := by
    obtain ⟨ys, rfl⟩ := List.getLast?_eq_some_iff.1 he
    simp
  rwa [e] at h1
end
end Go.Proofs.Ytbmapmigiokbcaa.Rq
