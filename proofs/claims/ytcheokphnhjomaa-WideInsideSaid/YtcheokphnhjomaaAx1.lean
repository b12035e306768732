/- AX 1: an abstract heap with closed names for blocks; values over it; what it says of a world. -/
import Derived.Orders
import Derived.Below
import Derived.LoopN
import Derived.Tactics
import Derived.Laws.Sem
import Derived.Laws.World
import Derived.Laws.Entries
import Derived.Laws.Cells
import Derived.Laws.IdiomCopy
import Derived.Laws.NewBlocks
import Derived.Laws.NewFold
import Derived.Laws.Rows
import Derived.KernelRfl
import Derived.ChangeKeysEq
namespace Go.Proofs.Ytcheokphnhjomaa.Ax
open Go Go.RowKit
set_option linter.unusedVariables false
set_option linter.unusedSimpArgs false

/-- Where a name stands: its block, the offset of its first element, its capacity; nil: a slice without a block. -/
structure Loc where
  blk : Nat
  off : Nat
  len : Nat
  cap : Nat
  nil : Bool

/-- A value over names. -/
inductive SV where
  | v (x : Value)
  | ptr (id off : Nat)
  | elt (id n i sub : Nat)
  | slc (id n off len : Nat) (cap : Option Nat)
  | all (id : Nat)
  | map (id : Nat)
  | fn (f : Fn) (fi ca : List SV)
  | agg (l : List SV)
  | tup (l : List SV)

abbrev Rho := Nat → Loc

mutual
def den (ρ : Rho) : SV → Value
  | .v x => x
  | .ptr id off => .pointer (some ⟨(ρ id).blk, (ρ id).off + off, none⟩)
  | .elt id n i sub => .pointer (some ⟨(ρ id).blk, (ρ id).off + i * n + sub, none⟩)
  | .slc id n off len cap => if (ρ id).nil then .slice none 0 0 else .slice (some ⟨(ρ id).blk, (ρ id).off + off * n, none⟩) len (match cap with | some c => c | none => (ρ id).cap - off)
  | .all id => if (ρ id).nil then .slice none 0 0 else .slice (some ⟨(ρ id).blk, (ρ id).off, none⟩) (ρ id).len (ρ id).cap
  | .map id => .map (some (ρ id).blk)
  | .fn f fi ca => .func f (denL ρ fi).toArray (denL ρ ca).toArray
  | .agg l => .agg (denL ρ l).toArray
  | .tup l => .tuple (denL ρ l).toArray
def denL (ρ : Rho) : List SV → List Value
  | [] => []
  | s :: l => den ρ s :: denL ρ l
end

theorem denL_map (ρ : Rho) (l : List SV) : denL ρ l = l.map (den ρ) := by
  induction l with
  | nil => simp [denL]
  | cons s l ih => simp [denL, ih]

/-! No name from lo up to hi stands in it. -/
mutual
def SV.free (lo hi : Nat) : SV → Bool
  | .v _ => true
  | .ptr id _ | .elt id _ _ _ | .slc id _ _ _ _ | .all id | .map id => Nat.ble hi id || Nat.blt id lo
  | .fn _ fi ca => freeL lo hi fi && freeL lo hi ca
  | .agg l | .tup l => freeL lo hi l
def freeL (lo hi : Nat) : List SV → Bool
  | [] => true
  | s :: l => SV.free lo hi s && freeL lo hi l
end

theorem out_of {lo hi id : Nat} (h : (Nat.ble hi id || Nat.blt id lo) = true) : id < lo ∨ hi ≤ id := by
  rw [Bool.or_eq_true] at h
  rcases h with h | h
  · exact .inr (Nat.le_of_ble_eq_true h)
  · refine .inl ?_
    have : Nat.ble (id + 1) lo = true := h
    exact Nat.le_of_ble_eq_true this

mutual
theorem den_free {ρ ρ' : Rho} {lo hi : Nat} (h : ∀ i, i < lo ∨ hi ≤ i → ρ' i = ρ i) : ∀ s : SV, s.free lo hi = true → den ρ' s = den ρ s
  | .v _, _ => rfl
  | .ptr id _, hs => by simp only [den]; rw [h id (out_of hs)]
  | .elt id _ _ _, hs => by simp only [den]; rw [h id (out_of hs)]
  | .slc id _ _ _ _, hs => by simp only [den]; rw [h id (out_of hs)]
  | .all id, hs => by simp only [den]; rw [h id (out_of hs)]
  | .map id, hs => by simp only [den]; rw [h id (out_of hs)]
  | .fn _ fi ca, hs => by
    simp only [SV.free, Bool.and_eq_true] at hs
    simp only [den]; rw [denL_free h fi hs.1, denL_free h ca hs.2]
  | .agg l, hs => by simp only [den]; rw [denL_free h l hs]
  | .tup l, hs => by simp only [den]; rw [denL_free h l hs]
theorem denL_free {ρ ρ' : Rho} {lo hi : Nat} (h : ∀ i, i < lo ∨ hi ≤ i → ρ' i = ρ i) : ∀ l : List SV, freeL lo hi l = true → denL ρ' l = denL ρ l
  | [], _ => rfl
  | s :: l, hs => by
    simp only [freeL, Bool.and_eq_true] at hs
    simp only [denL]; rw [den_free h s hs.1, denL_free h l hs.2]
end

/-! Rows: elements of a fixed number of plain cells. -/
inductive Sc where
  | int (k : IntKind)
  | bool
  | str
def Sc.T : Sc → Type
  | .int _ => Int
  | .bool => Bool
  | .str => ByteArray
def enc1 : (s : Sc) → s.T → Value
  | .int k, x => .int k x
  | .bool, b => .bool b
  | .str, s => .string s
def dec1 : (s : Sc) → Value → Option s.T
  | .int k, .int k' n => if k = k' then some n else none
  | .bool, .bool b => some b
  | .str, .string s => some s
  | _, _ => none
def TT : List Sc → Type
  | [] => Unit
  | [a] => a.T
  | a :: b :: l => a.T × TT (b :: l)
def enc : (l : List Sc) → TT l → List Value
  | [], _ => []
  | [a], x => [enc1 a x]
  | a :: b :: l, (x, y) => enc1 a x :: enc (b :: l) y
def decS (s : Sc) : SV → Option s.T
  | .v x => dec1 s x
  | _ => none
def dec : (l : List Sc) → List SV → Option (TT l)
  | [], xs => match xs with
    | [] => some ()
    | _ :: _ => none
  | [a], xs => match xs with
    | [] => none
    | s :: ys => match ys with
      | [] => decS a s
      | _ :: _ => none
  | a :: b :: l, xs => match xs with
    | [] => none
    | s :: ys => match decS a s with
      | none => none
      | some y => match dec (b :: l) ys with
        | none => none
        | some z => some (y, z)

theorem dec1_enc1 {s : Sc} {v : Value} {x : s.T} (h : dec1 s v = some x) : v = enc1 s x := by
  cases s with
  | int k =>
    cases v <;> simp only [dec1, reduceCtorEq] at h
    split at h
    · rename_i e; subst e; cases h; rfl
    · cases h
  | bool => cases v <;> simp only [dec1, reduceCtorEq] at h; cases h; rfl
  | str => cases v <;> simp only [dec1, reduceCtorEq] at h; cases h; rfl
theorem decS_enc1 (ρ : Rho) {s : Sc} {v : SV} {x : s.T} (h : decS s v = some x) : den ρ v = enc1 s x := by
  cases v <;> simp only [decS, reduceCtorEq] at h
  simp only [den]
  exact dec1_enc1 h
theorem enc_length : ∀ (l : List Sc) (x : TT l), (enc l x).length = l.length
  | [], _ => rfl
  | [a], _ => rfl
  | a :: b :: l, x => by
    obtain ⟨x, y⟩ := x
    show (enc (b :: l) y).length + 1 = _
    rw [enc_length (b :: l) y]; rfl
theorem dec_enc (ρ : Rho) : ∀ (l : List Sc) (xs : List SV) (x : TT l), dec l xs = some x → denL ρ xs = enc l x
  | [], xs, x, h => by
    cases xs with
    | nil => rfl
    | cons => cases h
  | [a], xs, x, h => by
    cases xs with
    | nil => cases h
    | cons s ys =>
      cases ys with
      | nil => simp only [denL]; rw [decS_enc1 ρ (s := a) (v := s) (x := x) h]; rfl
      | cons => cases h
  | a :: b :: l, xs, x, h => by
    cases xs with
    | nil => cases h
    | cons s ys =>
      simp only [dec] at h
      cases hy : decS a s with
      | none => rw [hy] at h; cases h
      | some y =>
        rw [hy] at h
        simp only at h
        cases hz : dec (b :: l) ys with
        | none => rw [hz] at h; cases h
        | some z =>
          rw [hz] at h
          cases h
          simp only [denL]
          rw [decS_enc1 ρ hy, dec_enc ρ (b :: l) ys z hz]
          rfl
theorem enc1_one (s : Sc) (x : s.T) : (enc1 s x).oneCell' = true := by cases s <;> rfl
theorem enc_one : ∀ (l : List Sc) (x : TT l), ∀ v ∈ enc l x, v.oneCell' = true
  | [], _, v, h => by cases h
  | [a], x, v, h => by
    rcases List.mem_cons.1 h with h | h
    · subst h; exact enc1_one a x
    · cases h
  | a :: b :: l, x, v, h => by
    obtain ⟨x, y⟩ := x
    rcases List.mem_cons.1 h with h | h
    · subst h; exact enc1_one a x
    · exact enc_one (b :: l) y v h

/-- What a name stands for. -/
inductive AObj where
  | dead
  | cells (ty : TypeId) (c : List SV)
  | row (ty : TypeId) (s : List Sc) (l : List (TT s))
  | ro (ty : TypeId) (c : List SV)
  | arg (s : List Sc) (l : List (TT s))

def AObj.own : AObj → Bool
  | .cells .. | .row .. => true
  | _ => false
def AObj.shared : AObj → Bool
  | .ro .. | .arg .. => true
  | _ => false
def AObj.free (lo hi : Nat) : AObj → Bool
  | .cells _ c | .ro _ c => freeL lo hi c
  | _ => true

def flat (s : List Sc) (l : List (TT s)) : List Value := (l.map (enc s)).flatten

/-- What it says of a world. -/
def OK (ρ : Rho) (w : World) (L : Loc) : AObj → Prop
  | .dead => True
  | .cells ty c => L.nil = false ∧ L.off = 0 ∧ w.heap[L.blk]? = some (.cells (denL ρ c).toArray ty (0, 0))
  | .row ty s l => L.len = l.length ∧ ((L.nil = true ∧ l = [] ∧ L.cap = 0) ∨
      (L.nil = false ∧ L.off = 0 ∧ l.length ≤ L.cap ∧ ∃ arr, w.heap[L.blk]? = some (.cells arr ty (0, 0)) ∧ arr.size = L.cap * s.length ∧ arr.toList.take (l.length * s.length) = flat s l))
  | .ro ty c => L.nil = false ∧ L.off = 0 ∧ w.heap[L.blk]? = some (.cells (denL ρ c).toArray ty (0, 0))
  | .arg s l => L.len = l.length ∧ ((L.nil = true ∧ l = [] ∧ L.cap = 0) ∨ (L.nil = false ∧ L.blk < w.heap.size ∧ l.length ≤ L.cap ∧ ∀ j v, (flat s l)[j]? = some v → w.cell? ⟨L.blk, L.off + j, none⟩ = some v))

abbrev Hp := List (Nat × AObj)

def look {α : Type} : List (Nat × α) → Nat → Option α
  | [], _ => none
  | (k, x) :: l, n => bif Nat.beq k n then some x else look l n
def put {α : Type} : List (Nat × α) → Nat → α → List (Nat × α)
  | [], n, x => [(n, x)]
  | (k, y) :: l, n, x => bif Nat.beq k n then (n, x) :: l else (k, y) :: put l n x
theorem beq_no {a b : Nat} (h : a ≠ b) : Nat.beq a b = false := by
  cases e : Nat.beq a b with
  | false => rfl
  | true => exact absurd (Nat.eq_of_beq_eq_true e) h
theorem look_put {α : Type} (l : List (Nat × α)) (n : Nat) (x : α) (m : Nat) : look (put l n x) m = if n = m then some x else look l m := by
  induction l with
  | nil =>
    simp only [put, look]
    by_cases h : n = m
    · subst h; simp
    · rw [if_neg h, beq_no h]; rfl
  | cons p l ih =>
    obtain ⟨k, y⟩ := p
    simp only [put]
    by_cases h : k = n
    · subst h
      simp only [Nat.beq_refl, cond_true, look]
      by_cases h' : k = m
      · subst h'; simp
      · rw [if_neg h', beq_no h']; rfl
    · rw [beq_no h]
      simp only [cond_false, look]
      by_cases h' : k = m
      · subst h'
        simp only [Nat.beq_refl, cond_true]
        rw [if_neg (fun e => h e.symm)]
      · rw [beq_no h']
        simp only [cond_false]
        exact ih

/-- The blocks that may be written to, and nothing else has turned. -/
structure Keeps (B : Nat → Prop) (w w' : World) : Prop where
  os : w'.os = w.os
  tape : w'.tape = w.tape
  output : w'.output = w.output
  size : w.heap.size ≤ w'.heap.size
  block : ∀ k, ¬ B k → w'.heap[k]? = w.heap[k]?
theorem Keeps.refl (B : Nat → Prop) (w : World) : Keeps B w w := ⟨rfl, rfl, rfl, Nat.le_refl _, fun _ _ => rfl⟩
theorem Keeps.trans {B : Nat → Prop} {a b c : World} (h : Keeps B a b) (k : Keeps B b c) : Keeps B a c :=
  ⟨k.os.trans h.os, k.tape.trans h.tape, k.output.trans h.output, Nat.le_trans h.size k.size, fun i hi => (k.block i hi).trans (h.block i hi)⟩
theorem Keeps.drew {B : Nat → Prop} {a w : World} (h : Keeps B a w) : Keeps B a { w with drawn := w.drawn + 1 } := ⟨h.os, h.tape, h.output, h.size, h.block⟩
theorem Keeps.below {B : Nat → Prop} {w w' : World} (h : Keeps B w w') (hB : ∀ b, B b → w.heap.size ≤ b) : Below w.heap.size w w' :=
  ⟨h.os, h.tape, h.output, h.size, fun k hk => h.block k fun hb => by have := hB k hb; omega⟩
theorem Keeps.of_below {B : Nat → Prop} {w w' : World} (h : Below w.heap.size w w') (hB : ∀ b, w.heap.size ≤ b → B b) : Keeps B w w' :=
  ⟨h.os, h.tape, h.output, h.size, fun k hk => h.block k (by
    rcases Nat.lt_or_ge k w.heap.size with h' | h'
    · exact h'
    · exact absurd (hB k h') hk)⟩

/-- The heap over names, as the world has it. -/
structure HR (B : Nat → Prop) (ρ : Rho) (h : Hp) (w : World) : Prop where
  ok : ∀ i o, look h i = some o → OK ρ w (ρ i) o
  inB : ∀ i o, look h i = some o → o.own = true → (ρ i).nil = false → B (ρ i).blk
  arg : ∀ i o, look h i = some o → o.shared = true → (ρ i).nil = false → ¬ B (ρ i).blk
  inj : ∀ i j o o', look h i = some o → look h j = some o' → o.own = true → o'.own = true → (ρ i).nil = false → (ρ j).nil = false → i ≠ j → (ρ i).blk ≠ (ρ j).blk

theorem OK.lt {ρ : Rho} {w : World} {L : Loc} {o : AObj} (h : OK ρ w L o) (ho : o ≠ .dead) (hn : L.nil = false) : L.blk < w.heap.size := by
  have key : ∀ x, w.heap[L.blk]? = some x → L.blk < w.heap.size := fun x hx => (Array.getElem?_eq_some_iff.1 hx).1
  cases o with
  | dead => exact absurd rfl ho
  | cells ty c => exact key _ h.2.2
  | ro ty c => exact key _ h.2.2
  | row ty s l =>
    rcases h with ⟨_, ⟨h, _⟩ | ⟨_, _, _, arr, h, _⟩⟩
    · rw [h] at hn; cases hn
    · exact key _ h
  | arg s l =>
    rcases h with ⟨_, ⟨h, _⟩ | ⟨_, h, _⟩⟩
    · rw [h] at hn; cases hn
    · exact h

/-- What is said of one name holds on, if its block is as it was and its names stand where they stood. -/
theorem OK.keep {ρ ρ' : Rho} {w w' : World} {L : Loc} {o : AObj} (h : OK ρ w L o) (hd : ∀ ty c, o = .cells ty c ∨ o = .ro ty c → denL ρ' c = denL ρ c)
    (hb : L.nil = false → w'.heap[L.blk]? = w.heap[L.blk]?) (hs : w.heap.size ≤ w'.heap.size) : OK ρ' w' L o := by
  cases o with
  | dead => trivial
  | cells ty c =>
    obtain ⟨h1, h2, h3⟩ := h
    exact ⟨h1, h2, by rw [hb h1, hd ty c (.inl rfl)]; exact h3⟩
  | ro ty c =>
    obtain ⟨h1, h2, h3⟩ := h
    exact ⟨h1, h2, by rw [hb h1, hd ty c (.inr rfl)]; exact h3⟩
  | row ty s l =>
    rcases h with ⟨h0, h | ⟨h1, h2, h3, arr, h4, h5⟩⟩
    · exact ⟨h0, .inl h⟩
    · exact ⟨h0, .inr ⟨h1, h2, h3, arr, by rw [hb h1]; exact h4, h5⟩⟩
  | arg s l =>
    rcases h with ⟨h0, h | ⟨h1, h2, h3, h4⟩⟩
    · exact ⟨h0, .inl h⟩
    · refine ⟨h0, .inr ⟨h1, Nat.lt_of_lt_of_le h2 hs, h3, fun j v hv => ?_⟩⟩
      rw [← h4 j v hv]
      exact World.cell?_of_block (w := w) (hb h1)

end Go.Proofs.Ytcheokphnhjomaa.Ax
