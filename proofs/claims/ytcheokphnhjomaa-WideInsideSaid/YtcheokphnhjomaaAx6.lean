/- AX 6: what a step may make: nothing, a new block, a block written anew. -/
import Derived.Test.YtcheokphnhjomaaAx5
import Derived.Laws.Tables
import Derived.Great.BuildSlice
import Derived.Laws.IdiomRangeMap
namespace Go.Proofs.Ytcheokphnhjomaa.Ax
open Go Go.RowKit
set_option linter.unusedVariables false
set_option linter.unusedSimpArgs false

theorem made_pure {B : Nat → Prop} {ρ : Rho} {h : Hp} {w : World} {lo hi : Nat} {s : SV} (hr : HR B ρ h w) : Made B ρ h w lo hi ⟨s, []⟩ ρ (den ρ s) w :=
  ⟨rfl, fun _ _ => rfl, hr, Keeps.refl _ _⟩

/-- The heap's facts pass on to a world in which the blocks of what is named are as they were. -/
theorem HR.keep {B : Nat → Prop} {ρ : Rho} {h : Hp} {w w' : World} (hr : HR B ρ h w) (hs : w.heap.size ≤ w'.heap.size)
    (hb : ∀ i o, look h i = some o → o ≠ .dead → (ρ i).nil = false → w'.heap[(ρ i).blk]? = w.heap[(ρ i).blk]?) : HR B ρ h w' :=
  ⟨fun i o ho => by
    by_cases hd : o = .dead
    · subst hd; trivial
    · exact (hr.ok i _ ho).keep (fun _ _ _ => rfl) (hb i _ ho hd) hs, hr.inB, hr.arg, hr.inj⟩
theorem free_cells {lo hi : Nat} {o : AObj} (h : o.free lo hi = true) : ∀ ty c, o = .cells ty c ∨ o = .ro ty c → freeL lo hi c = true := by
  intro ty c e
  rcases e with e | e <;> subst e <;> exact h

/-- The names of a heap that do not stand in the range. -/
def HFree (lo hi : Nat) (h : Hp) : Prop := ∀ i o, look h i = some o → (i < lo ∨ hi ≤ i) ∧ o.free lo hi = true

def setRho (ρ : Rho) (k : Nat) (L : Loc) : Rho := fun i => if i = k then L else ρ i
theorem setRho_same (ρ : Rho) (k : Nat) (L : Loc) : setRho ρ k L k = L := if_pos rfl
theorem setRho_other (ρ : Rho) {k i : Nat} (L : Loc) (h : i ≠ k) : setRho ρ k L i = ρ i := if_neg h

/-- One new name, for a new block (or for none). -/
theorem made_new {B : Nat → Prop} {ρ : Rho} {h : Hp} {w w' : World} {lo hi : Nat} {s : SV} {o : AObj} {L : Loc} (hr : HR B ρ h w) (hf : HFree lo hi h) (hlo : lo < hi)
    (up : ∀ b, w.heap.size ≤ b → B b) (hk : Keeps B w w') (hold : ∀ b, b < w.heap.size → w'.heap[b]? = w.heap[b]?) (hown : o.own = true) (hL : L.nil = false → w.heap.size ≤ L.blk)
    (hok : OK (setRho ρ lo L) w' L o) : Made B ρ h w lo hi ⟨s, [(lo, o)]⟩ (setRho ρ lo L) (den (setRho ρ lo L) s) w' := by
  have hne : ∀ i x, look h i = some x → i ≠ lo := fun i x hx e => by have := (hf i x hx).1; omega
  have hρ : ∀ i, i < lo ∨ hi ≤ i → setRho ρ lo L i = ρ i := fun i hi => setRho_other _ _ (by omega)
  have hkeep : HR B ρ h w' := hr.keep hk.size fun i x hx hd hn => hold _ ((hr.ok i x hx).lt hd hn)
  refine ⟨rfl, hρ, ⟨?_, ?_, ?_, ?_⟩, hk⟩
  · intro i x hx
    simp only [puts, look_put] at hx
    split at hx
    · rename_i e; subst e; cases hx; rw [setRho_same]; exact hok
    · rw [setRho_other _ _ (hne i x hx)]
      exact (hkeep.ok i _ hx).keep (fun ty' c' e => denL_free (lo := lo) (hi := hi) hρ c' (free_cells (hf i _ hx).2 ty' c' e)) (fun _ => rfl) (Nat.le_refl _)
  · intro i x hx ho hn
    simp only [puts, look_put] at hx
    split at hx
    · rename_i e; subst e; rw [setRho_same] at hn ⊢; exact up _ (hL hn)
    · rw [setRho_other _ _ (hne i x hx)] at hn ⊢; exact hr.inB i x hx ho hn
  · intro i x hx ho hn
    simp only [puts, look_put] at hx
    split at hx
    · cases hx; cases o <;> first | (cases hown; done) | (cases ho; done)
    · rw [setRho_other _ _ (hne i _ hx)] at hn ⊢; exact hr.arg i x hx ho hn
  · intro i j x y hx hy ho ho' hn hn' hij
    simp only [puts, look_put] at hx hy
    have old : ∀ k z, look h k = some z → z.own = true → (ρ k).nil = false → (ρ k).blk < w.heap.size := fun k z hz hzo hzn => (hr.ok k z hz).lt (fun e => by subst e; cases hzo) hzn
    split at hx
    · rename_i e
      subst e
      split at hy
      · rename_i e'; exact absurd e' hij
      · rw [setRho_other _ _ (hne j y hy)] at hn' ⊢
        rw [setRho_same] at hn ⊢
        have h1 := old j y hy ho' hn'
        have h2 := hL hn
        omega
    · rw [setRho_other _ _ (hne i x hx)] at hn ⊢
      split at hy
      · rename_i e'
        subst e'
        rw [setRho_same] at hn' ⊢
        have h1 := old i x hx ho hn
        have h2 := hL hn'
        omega
      · rw [setRho_other _ _ (hne j y hy)] at hn' ⊢
        exact hr.inj i j x y hx hy ho ho' hn hn' hij

theorem Keeps.alloc {B : Nat → Prop} (w : World) (o : Obj) (up : ∀ b, w.heap.size ≤ b → B b) : Keeps B w (w.alloc o) :=
  ⟨rfl, rfl, rfl, (by show w.heap.size ≤ (w.heap.push o).size; simp), fun k hk => Below.heap_alloc w o k (by
    rcases Nat.lt_or_ge k w.heap.size with h | h
    · exact h
    · exact absurd (up k h) hk)⟩

/-- A new block of cells. -/
theorem made_cells {B : Nat → Prop} {ρ : Rho} {h : Hp} {w : World} {lo hi : Nat} {s : SV} {ty : TypeId} {c : List SV} (hr : HR B ρ h w) (hf : HFree lo hi h) (hlo : lo < hi)
    (up : ∀ b, w.heap.size ≤ b → B b) (hc : freeL lo hi c = true) (n cap : Nat) :
    Made B ρ h w lo hi ⟨s, [(lo, .cells ty c)]⟩ (setRho ρ lo ⟨w.heap.size, 0, n, cap, false⟩) (den (setRho ρ lo ⟨w.heap.size, 0, n, cap, false⟩) s) (w.alloc (.cells (denL ρ c).toArray ty)) := by
  refine made_new hr hf hlo up (Keeps.alloc _ _ up) (fun b hb => Below.heap_alloc _ _ _ hb) rfl (fun _ => Nat.le_refl _) ⟨rfl, rfl, ?_⟩
  rw [denL_free (lo := lo) (hi := hi) (fun i hi => setRho_other _ _ (by omega)) c hc]
  exact heap_alloc_new _ _

/-- An own block, written anew. -/
theorem made_set {B : Nat → Prop} {ρ : Rho} {h : Hp} {w w' : World} {lo hi id : Nat} {s : SV} {o o' : AObj} (hr : HR B ρ h w) (hlo : id < lo ∨ hi ≤ id) (ho : look h id = some o) (hown : o.own = true) (hown' : o'.own = true) (hnil : (ρ id).nil = false)
    (hos : w'.os = w.os) (htape : w'.tape = w.tape) (hout : w'.output = w.output) (hsize : w'.heap.size = w.heap.size) (hold : ∀ b, b ≠ (ρ id).blk → w'.heap[b]? = w.heap[b]?) (hok : OK ρ w' (ρ id) o') :
    Made B ρ h w lo hi ⟨s, [(id, o')]⟩ ρ (den ρ s) w' := by
  refine ⟨rfl, fun _ _ => rfl, ⟨?_, ?_, ?_, ?_⟩, ⟨hos, htape, hout, by omega, fun k hk => hold k fun e => hk (e ▸ hr.inB id o ho hown hnil)⟩⟩
  · intro i x hx
    simp only [puts, look_put] at hx
    split at hx
    · rename_i e; subst e; cases hx; exact hok
    · rename_i e
      by_cases hd : x = .dead
      · subst hd; trivial
      · have key : (ρ i).nil = false → (ρ i).blk ≠ (ρ id).blk := by
          intro hn
          by_cases hxo : x.own = true
          · exact hr.inj i id x o hx ho hxo hown hn hnil (fun e' => e e'.symm)
          · have hxs : x.shared = true := by cases x <;> first | rfl | (exact absurd rfl hd) | (exact absurd rfl hxo)
            exact fun e' => hr.arg i x hx hxs hn (e' ▸ hr.inB id o ho hown hnil)
        exact (hr.ok i _ hx).keep (fun _ _ _ => rfl) (fun hn => hold _ (key hn)) (by omega)
  · intro i x hx hxo hn
    simp only [puts, look_put] at hx
    split at hx
    · rename_i e; subst e; exact hr.inB _ o ho hown hn
    · exact hr.inB i x hx hxo hn
  · intro i x hx hxo hn
    simp only [puts, look_put] at hx
    split at hx
    · cases hx; cases o' <;> first | (cases hown'; done) | (cases hxo; done)
    · exact hr.arg i x hx hxo hn
  · intro i j x y hx hy hxo hyo hn hn' hij
    simp only [puts, look_put] at hx hy
    split at hx
    · rename_i e
      subst e
      split at hy
      · rename_i e'; exact absurd e' hij
      · exact hr.inj _ j o y ho hy hown hyo hn hn' hij
    · split at hy
      · rename_i e'; subst e'; exact hr.inj i _ x o hx ho hxo hown hn hn' hij
      · exact hr.inj i j x y hx hy hxo hyo hn hn' hij

/-! Stores into a block of cells. -/
def repl {α : Type} (c : List α) (o : Nat) (xs : List α) : List α := c.take o ++ xs ++ c.drop (o + xs.length)
theorem repl_length {α : Type} (c : List α) (o : Nat) (xs : List α) (h : o + xs.length ≤ c.length) : (repl c o xs).length = c.length := by
  simp [repl]; omega
theorem set_repl {α : Type} (c : List α) (o : Nat) (x : α) (xs : List α) (h : o + (x :: xs).length ≤ c.length) : repl (c.set o x) (o + 1) xs = repl c o (x :: xs) := by
  simp only [List.length_cons] at h
  unfold repl
  have h1 : (c.set o x).take (o + 1) = c.take o ++ [x] := by
    rw [List.take_set, List.take_succ_eq_append_getElem (by omega : o < c.length), List.set_append_right _ _ (by simp; omega)]
    simp [show min o c.length = o by omega]
  have h2 : (c.set o x).drop (o + 1 + xs.length) = c.drop (o + 1 + xs.length) := by
    rw [List.drop_set_of_lt (by omega)]
  rw [h1, h2, List.length_cons, show o + (xs.length + 1) = o + 1 + xs.length by omega]
  simp
theorem setRow_self' (w : World) (g : Nat) (cur : Array Value) (t : TypeId) (fr : Nat × Nat) (hg : w.heap[g]? = some (.cells cur t fr)) : w.setRow g cur = w := by
  unfold World.setRow
  cases w with
  | mk heap tape drawn os output =>
    congr 1
    apply Array.ext
    · simp
    · intro k h1 h2
      simp only [Array.getElem_modify]
      split
      · rename_i e
        subst e
        have := (Array.getElem?_eq_some_iff.1 hg).2
        rw [this]
      · rfl
theorem run_storeCells_at {P : Program} (g o : Nat) (t : TypeId) : ∀ (vs : List Value) (i : Nat) (cur : List Value) (w : World), w.heap[g]? = some (.cells cur.toArray t (0, 0)) → o + i + vs.length ≤ cur.length → (∀ v ∈ vs, v.oneCell' = true) →
    (storeCells ⟨g, o, none⟩ vs i).run P w = .ok () (w.setRow g (repl cur (o + i) vs).toArray)
  | [], i, cur, w, hg, hl, _ => by
    have : repl cur (o + i) [] = cur := by simp [repl]
    rw [this, setRow_self' w g _ t _ hg]
    rfl
  | v :: r, i, cur, w, hg, hl, h1 => by
    simp only [List.length_cons] at hl
    have hadd : (⟨g, o, none⟩ : Addr).add i = ⟨g, o + i, none⟩ := by unfold Addr.add; split <;> simp_all
    have hc : w.cell? ⟨g, o + i, none⟩ = some (cur[o + i]'(by omega)) := by
      rw [cell_of_row w g (o + i) _ t _ hg]
      simp [List.getElem?_eq_getElem (by omega : o + i < cur.length)]
    have hfr : w.frozen? ⟨g, o + i, none⟩ = false := by simp [World.frozen?, hg]
    have hst : (store ((⟨g, o, none⟩ : Addr).add i) v).run P w = .ok () (w.setRow g (cur.set (o + i) v).toArray) := by
      rw [hadd, run_store P w _ v _ (h1 v (by simp)), hc]
      simp only [hfr]
      rw [setCell_eq_setRow w g (o + i) _ t _ v hg]
      simp
    have ih := run_storeCells_at (P := P) g o t r (i + 1) (cur.set (o + i) v) (w.setRow g (cur.set (o + i) v).toArray) (setRow_heap w g _ _ t _ hg) (by simp; omega) (fun x hx => h1 x (by simp [hx]))
    simp only [storeCells, Sem.run_bind, hst, Result.andThen_ok, ih, setRow_setRow]
    rw [show o + (i + 1) = o + i + 1 by omega, set_repl cur (o + i) v r (by simp; omega)]

/-! Loads out of a block of cells. -/
theorem run_loadCells_at {P : Program} (w : World) (g o n : Nat) (t : TypeId) (fr : Nat × Nat) (cur : List Value) (hg : w.heap[g]? = some (.cells cur.toArray t fr)) (hl : o + n ≤ cur.length) :
    (loadCells ⟨g, o, none⟩ n).run P w = .ok ((cur.drop o).take n).toArray w := by
  have h := run_loadCells_list (P := P) w ⟨g, o, none⟩ ((cur.drop o).take n) (fun j v hv => by
    have hadd : (⟨g, o, none⟩ : Addr).add j = ⟨g, o + j, none⟩ := by unfold Addr.add; split <;> simp_all
    rw [hadd, cell_of_row w g (o + j) _ t _ hg]
    rw [List.getElem?_take] at hv
    split at hv
    · rw [List.getElem?_drop] at hv
      simpa using hv
    · cases hv)
  rwa [show ((cur.drop o).take n).length = n by simp; omega] at h

def aggT (P : Program) (t : TypeId) : Option Bool := (P.underlying t).map fun d => match d with | .struct _ | .array _ _ => true | _ => false
theorem run_isAgg {P : Program} {t : TypeId} {b : Bool} (h : aggT P t = some b) (w : World) : (isAgg t).run P w = .ok b w := by
  unfold aggT at h
  cases hu : P.underlying t with
  | none => rw [hu] at h; cases h
  | some d =>
    rw [hu] at h
    simp only [Option.map_some, Option.some.injEq] at h
    unfold isAgg
    rw [Sem.run_bind, run_underlying hu w]
    cases d <;> simp at h <;> subst h <;> rfl
def szT (P : Program) (t : TypeId) : Option Nat := (P.info? t).map (·.size)
theorem run_sizeOf' {P : Program} {t : TypeId} {n : Nat} (h : szT P t = some n) (w : World) : (sizeOf t).run P w = .ok n w := by
  unfold szT at h
  cases hi : P.info? t with
  | none => rw [hi] at h; cases h
  | some i =>
    rw [hi] at h
    simp only [Option.map_some, Option.some.injEq] at h
    subst h
    simp [sizeOf, typeInfo, hi]

/-- A part of a list of cells. -/
def part1 (c : List SV) (agg : Bool) (off size : Nat) : Option SV :=
  match agg with
  | true => cond (Nat.ble (off + size) c.length) (some (.agg ((c.drop off).take size))) none
  | false => c[off]?
theorem denL_getElem? (ρ : Rho) (c : List SV) (i : Nat) : (denL ρ c)[i]? = (c[i]?).map (den ρ) := by rw [denL_map]; simp
theorem denL_length (ρ : Rho) (c : List SV) : (denL ρ c).length = c.length := by rw [denL_map]; simp
theorem denL_part (ρ : Rho) (c : List SV) (o n : Nat) : denL ρ ((c.drop o).take n) = ((denL ρ c).drop o).take n := by simp only [denL_map, List.map_take, List.map_drop]
theorem denL_repl (ρ : Rho) (c xs : List SV) (o : Nat) : denL ρ (repl c o xs) = repl (denL ρ c) o (denL ρ xs) := by
  simp only [denL_map, repl, List.map_append, List.map_take, List.map_drop, List.length_map]
theorem part1_den {ρ : Rho} {c : List SV} {agg : Bool} {off size : Nat} {s : SV} (h : part1 c agg off size = some s) :
    (agg = true → off + size ≤ c.length ∧ den ρ s = .agg (((denL ρ c).drop off).take size).toArray) ∧ (agg = false → (denL ρ c)[off]? = some (den ρ s)) := by
  cases agg with
  | true =>
    refine ⟨fun _ => ?_, (fun e => by cases e)⟩
    simp only [part1] at h
    cases hb : Nat.ble (off + size) c.length with
    | false => rw [hb] at h; cases h
    | true =>
      rw [hb] at h
      cases h
      exact ⟨Nat.le_of_ble_eq_true hb, by simp only [den]; rw [denL_part]⟩
  | false =>
    refine ⟨(fun e => by cases e), fun _ => ?_⟩
    simp only [part1] at h
    rw [denL_getElem?, h]
    rfl
theorem run_loadVar_at {P : Program} {ρ : Rho} {w : World} {g o : Nat} {ty t : TypeId} {fr : Nat × Nat} {c : List SV} {agg : Bool} {size : Nat} {s : SV} (hg : w.heap[g]? = some (.cells (denL ρ c).toArray ty fr))
    (ha : aggT P t = some agg) (hs : szT P t = some size) (hp : part1 c agg o size = some s) : (loadVar t ⟨g, o, none⟩).run P w = .ok (den ρ s) w := by
  obtain ⟨h1, h2⟩ := part1_den (ρ := ρ) hp
  unfold loadVar
  rw [Sem.run_bind, run_isAgg ha]
  cases agg with
  | true =>
    obtain ⟨h3, h4⟩ := h1 rfl
    simp only [Result.andThen_ok, if_true]
    rw [Sem.run_bind, run_sizeOf' hs]
    simp only [Result.andThen_ok]
    rw [Sem.run_bind, run_loadCells_at w g o size ty fr (denL ρ c) hg (by rw [denL_length]; exact h3), h4]
    rfl
  | false =>
    have h3 := h2 rfl
    simp only [Result.andThen_ok, Bool.false_eq_true, if_false]
    rw [run_load, cell_of_row w g o _ ty fr hg]
    simp only [List.getElem?_toArray, h3]

end Go.Proofs.Ytcheokphnhjomaa.Ax
