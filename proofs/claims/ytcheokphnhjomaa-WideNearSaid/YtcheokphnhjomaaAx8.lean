/- AX 8: all operations, and that each is sound. -/
import Derived.Test.YtcheokphnhjomaaAx7
namespace Go.Proofs.Ytcheokphnhjomaa.Ax
open Go Go.RowKit
set_option linter.unusedVariables false
set_option linter.unusedSimpArgs false

def cellsS : SV → List SV
  | .agg l => l
  | .v x => match x with
    | .agg cs => cs.toList.map SV.v
    | y => [.v y]
  | s => [s]
theorem map_v (ρ : Rho) (l : List Value) : denL ρ (l.map SV.v) = l := by
  rw [denL_map, List.map_map]
  have : (den ρ ∘ SV.v) = id := by funext x; rfl
  rw [this, List.map_id]
theorem cellsS_den (ρ : Rho) (s : SV) : (den ρ s).cells.toList = denL ρ (cellsS s) := by
  cases s with
  | v x => cases x <;> first | rfl | (show _ = denL ρ (List.map SV.v _); rw [map_v]; rfl)
  | slc id n off len cap => simp only [den]; split <;> simp [Value.cells, cellsS, denL, den, *]
  | all id => simp only [den]; split <;> simp [Value.cells, cellsS, denL, den, *]
  | agg l => simp [den, Value.cells, cellsS]
  | _ => simp [den, Value.cells, cellsS, denL]
theorem freeL_map_v (lo hi : Nat) (l : List Value) : freeL lo hi (l.map SV.v) = true := by
  induction l with
  | nil => rfl
  | cons x l ih => simp only [List.map_cons, freeL, ih, Bool.and_true]; rfl
theorem cellsS_free {lo hi : Nat} {s : SV} (h : s.free lo hi = true) : freeL lo hi (cellsS s) = true := by
  cases s with
  | v x => cases x <;> first | rfl | exact freeL_map_v _ _ _
  | agg l => exact h
  | ptr | elt | slc | all | map | fn | tup => all_goals (simp only [cellsS, freeL, Bool.and_true]; exact h)
theorem freeL_mem {lo hi : Nat} {l : List SV} : freeL lo hi l = true ↔ ∀ s ∈ l, s.free lo hi = true := by
  induction l with
  | nil => simp [freeL]
  | cons s l ih => simp [freeL, ih]
theorem freeL_repl {lo hi : Nat} {c xs : List SV} (o : Nat) (h : freeL lo hi c = true) (h' : freeL lo hi xs = true) : freeL lo hi (repl c o xs) = true := by
  rw [freeL_mem] at *
  intro s hs
  unfold repl at hs
  simp only [List.mem_append] at hs
  rcases hs with (hs | hs) | hs
  · exact h s (List.mem_of_mem_take hs)
  · exact h' s hs
  · exact h s (List.mem_of_mem_drop hs)

def oneS : SV → Bool
  | .agg _ | .tup _ => false
  | .v x => x.oneCell'
  | _ => true
def allOne : List SV → Bool
  | [] => true
  | s :: l => oneS s && allOne l
theorem oneS_den {ρ : Rho} {s : SV} (h : oneS s = true) : (den ρ s).oneCell' = true := by
  cases s with
  | v x => exact h
  | agg l => cases h
  | tup l => cases h
  | slc id n off len cap => simp only [den]; split <;> rfl
  | all id => simp only [den]; split <;> rfl
  | _ => rfl
theorem allOne_den {ρ : Rho} : ∀ {l : List SV}, allOne l = true → ∀ v ∈ denL ρ l, v.oneCell' = true
  | [], _, v, h => by cases h
  | s :: l, h, v, hv => by
    simp only [allOne, Bool.and_eq_true] at h
    simp only [denL, List.mem_cons] at hv
    rcases hv with hv | hv
    · subst hv; exact oneS_den h.1
    · exact allOne_den h.2 v hv

/-! Building. -/
def fillS (place : Nat → Option (Nat × Nat)) : List SV → List (Nat × SV) → Option (List SV)
  | cells, [] => some cells
  | cells, (i, s) :: rest => match place i with
    | none => none
    | some (off, size) => cond (Nat.beq (cellsS s).length size && Nat.ble (off + size) cells.length) (fillS place (repl cells off (cellsS s)) rest) none
theorem foldl_repl : ∀ (vs : List Value) (k off : Nat) (c : List Value), off + k + vs.length ≤ c.length →
    (vs.zipIdx k).foldl (fun (cs : Array Value) (p : Value × Nat) => cs.setIfInBounds (off + p.2) p.1) c.toArray = (repl c (off + k) vs).toArray
  | [], k, off, c, h => by simp [repl]
  | v :: vs, k, off, c, h => by
    simp only [List.length_cons] at h
    simp only [List.zipIdx_cons, List.foldl_cons, List.setIfInBounds_toArray]
    rw [foldl_repl vs (k + 1) off (c.set (off + k) v) (by simp; omega)]
    rw [← set_repl c (off + k) v vs (by simp; omega)]
    rfl
def denP (ρ : Rho) (ps : List (Nat × SV)) : List (Nat × Value) := ps.map fun p => (p.1, den ρ p.2)
theorem fillS_den (ρ : Rho) (place : Nat → Option (Nat × Nat)) : ∀ (ps : List (Nat × SV)) (c r : List SV), fillS place c ps = some r → Instr.fill place (denL ρ c).toArray (denP ρ ps) = some (denL ρ r).toArray
  | [], c, r, h => by cases h; rfl
  | (i, s) :: ps, c, r, h => by
    simp only [fillS] at h
    simp only [denP, List.map_cons, Instr.fill]
    cases hp : place i with
    | none => rw [hp] at h; cases h
    | some q =>
      obtain ⟨off, size⟩ := q
      rw [hp] at h
      simp only at h ⊢
      cases hb : (Nat.beq (cellsS s).length size && Nat.ble (off + size) c.length) with
      | false => rw [hb] at h; cases h
      | true =>
        rw [hb] at h
        simp only [cond_true] at h
        simp only [Bool.and_eq_true] at hb
        have h1 := Nat.eq_of_beq_eq_true hb.1
        have h2 := Nat.le_of_ble_eq_true hb.2
        have hl : (den ρ s).cells.size = size := by rw [← Array.length_toList, cellsS_den, denL_length]; exact h1
        have hc : ((den ρ s).cells.size ≠ size || off + (den ρ s).cells.size > (denL ρ c).toArray.size) = false := by
          rw [hl]
          simp [denL_length]
          exact h2
        rw [hc]
        simp only [Bool.false_eq_true, if_false]
        have hf : ((den ρ s).cells.zipIdx.foldl (fun (cs : Array Value) (p : Value × Nat) => cs.setIfInBounds (off + p.2) p.1) (denL ρ c).toArray) = (denL ρ (repl c off (cellsS s))).toArray := by
          rw [← Array.foldl_toList, Array.toList_zipIdx, cellsS_den, denL_repl]
          have := foldl_repl (denL ρ (cellsS s)) 0 off (denL ρ c) (by rw [denL_length, denL_length, h1]; exact h2)
          simpa using this
        rw [hf]
        exact fillS_den ρ place ps _ r h
theorem fillS_free {lo hi : Nat} {place : Nat → Option (Nat × Nat)} : ∀ {ps : List (Nat × SV)} {c r : List SV}, fillS place c ps = some r → freeL lo hi c = true → (∀ p ∈ ps, p.2.free lo hi = true) → freeL lo hi r = true
  | [], c, r, h, hc, _ => by cases h; exact hc
  | (i, s) :: ps, c, r, h, hc, hp => by
    simp only [fillS] at h
    cases hpl : place i with
    | none => rw [hpl] at h; cases h
    | some q =>
      obtain ⟨off, size⟩ := q
      rw [hpl] at h
      simp only at h
      cases hb : (Nat.beq (cellsS s).length size && Nat.ble (off + size) c.length) with
      | false => rw [hb] at h; cases h
      | true =>
        rw [hb] at h
        exact fillS_free h (freeL_repl _ hc (cellsS_free (hp (i, s) (by simp)))) (fun p hm => hp p (by simp [hm]))

def zeroT (P : Program) (t : TypeId) : Option (List Value) := match P.info? t with
  | none => none
  | some i => match i.zero with
    | none => none
    | some z => some z.cells.toList
def placesT (P : Program) : List Field → Option (List (Nat × Nat))
  | [] => some []
  | f :: fs => match szT P f.type with
    | none => none
    | some n => match placesT P fs with
      | none => none
      | some r => some ((f.offset, n) :: r)
theorem placesT_eq {P : Program} : ∀ {fs : List Field} {r : List (Nat × Nat)}, placesT P fs = some r → fs.mapM (fun f => (P.info? f.type).map fun i => (f.offset, i.size)) = some r
  | [], r, h => by cases h; rfl
  | f :: fs, r, h => by
    simp only [placesT, szT] at h
    cases hi : P.info? f.type with
    | none => rw [hi] at h; cases h
    | some i =>
      rw [hi] at h
      simp only [Option.map_some] at h
      cases hr : placesT P fs with
      | none => rw [hr] at h; cases h
      | some r' =>
        rw [hr] at h
        cases h
        simp [List.mapM_cons, hi, placesT_eq hr]
def builtS (P : Program) (t : TypeId) (ps : List (Nat × SV)) : Option (List SV) :=
  match zeroT P t with
  | none => none
  | some z => match P.underlying t with
    | some (.struct fields) => match placesT P fields.toList with
      | none => none
      | some pl => fillS (fun i => pl[i]?) (z.map SV.v) ps
    | some (.array _ e) => match szT P e with
      | none => none
      | some n => fillS (fun i => some (i * n, n)) (z.map SV.v) ps
    | _ => none
theorem builtS_den {P : Program} (ρ : Rho) {t : TypeId} {ps : List (Nat × SV)} {r : List SV} (h : builtS P t ps = some r) : P.built t (denP ρ ps) = some (denL ρ r).toArray := by
  unfold builtS zeroT at h
  unfold Program.built
  cases hi : P.info? t with
  | none => rw [hi] at h; cases h
  | some it =>
    rw [hi] at h
    simp only at h
    cases hz : it.zero with
    | none => rw [hz] at h; cases h
    | some z =>
      rw [hz] at h
      simp only at h
      cases hu : P.underlying t with
      | none => rw [hu] at h; cases h
      | some d =>
        rw [hu] at h
        cases d <;> try (cases h; done)
        case struct fields =>
          simp only at h ⊢
          cases hp : placesT P fields.toList with
          | none => rw [hp] at h; cases h
          | some pl =>
            rw [hp] at h
            simp only at h
            rw [placesT_eq hp, hz]
            simp only
            have := fillS_den ρ _ _ _ _ h
            rw [map_v] at this
            simpa using this
        case array n e =>
          simp only at h ⊢
          unfold szT at h
          cases hie : P.info? e with
          | none => rw [hie] at h; cases h
          | some ie =>
            rw [hie] at h
            simp only [Option.map_some] at h
            rw [hz]
            simp only
            have := fillS_den ρ _ _ _ _ h
            rw [map_v] at this
            simpa using this
theorem builtS_free {P : Program} {lo hi : Nat} {t : TypeId} {ps : List (Nat × SV)} {r : List SV} (h : builtS P t ps = some r) (hp : ∀ p ∈ ps, p.2.free lo hi = true) : freeL lo hi r = true := by
  unfold builtS at h
  split at h
  · cases h
  · split at h
    · split at h
      · cases h
      · exact fillS_free h (freeL_map_v _ _ _) hp
    · split at h
      · cases h
      · exact fillS_free h (freeL_map_v _ _ _) hp
    · cases h

def dfl1 : (s : Sc) → s.T
  | .int _ => (0 : Int)
  | .bool => false
  | .str => ByteArray.empty
def dfl : (l : List Sc) → TT l
  | [] => ()
  | [a] => dfl1 a
  | a :: b :: l => (dfl1 a, dfl (b :: l))
/-- The cells of a new slice: its zeros, as the machine lays them. -/
def zerosS (z : List Value) (n : Nat) : List Value := (List.range n).map fun j => z.toArray[j % z.length]!
theorem zerosS_eq (z : Array Value) (n : Nat) : ((Array.range n).map (z[· % z.size]!)) = (zerosS z.toList n).toArray := by
  apply Array.ext'
  simp [zerosS]

section
variable (P : Program) (C : FuncId → Option Con)

def loadS (t : TypeId) (c : List SV) (off : Nat) : Rd Out :=
  match aggT P t with
  | none => .fail
  | some g => match szT P t with
    | none => .fail
    | some z => match part1 c g off z with
      | none => .fail
      | some s => .ret ⟨s, []⟩

def storeS (t ty : TypeId) (id : Nat) (c : List SV) (off : Nat) (x : SV) : Rd Out :=
  match szT P t with
  | none => .fail
  | some z => cond (Nat.beq (cellsS x).length z && Nat.ble (off + z) c.length && allOne (cellsS x)) (.ret ⟨.v undef, [(id, .cells ty (repl c off (cellsS x)))]⟩) .fail

def binS (op : BinOp) (t : TypeId) (x y : SV) : Rd Out :=
  match x with
  | .v a => match y with
    | .v b => (bin1 P op t a b).bind fun r => .ret ⟨.v r, []⟩
    | _ => .fail
  | _ => .fail

def unS (op : UnOp) (x : SV) : Rd Out :=
  match x with
  | .v (.int k a) => match op with
    | .neg => .ret ⟨.v (.int k (k.wrap (0 - a))), []⟩
    | _ => .fail
  | .v (.bool b) => match op with
    | .not => .ret ⟨.v (.bool !b), []⟩
    | _ => .fail
  | _ => .fail

def convS (src dst : TypeId) (x : SV) : Rd Out :=
  match P.underlying src with
  | none => .fail
  | some _ => match P.underlying dst with
    | some (.int k) => match x with
      | .v (.int _ a) => .ret ⟨.v (.int k (k.wrap a)), []⟩
      | _ => .fail
    | some .string => match x with
      | .v (.string s) => .ret ⟨.v (.string s), []⟩
      | _ => .fail
    | _ => .fail

def nilS (x : SV) : Rd Out :=
  match x with
  | .ptr id off => .ret ⟨.ptr id off, []⟩
  | .elt id n i sub => .ret ⟨.elt id n i sub, []⟩
  | .fn (.func f) fi ca => .ret ⟨.fn (.func f) fi ca, []⟩
  | _ => .fail

def fieldAddrS (s : TypeId) (x : SV) (f : Nat) : Rd Out :=
  match P.underlying s with
  | some (.struct fields) => match fields[f]? with
    | none => .fail
    | some fld => match szT P fld.type with
      | none => .fail
      | some z => match Nat.beq z 0 with
        | true => .fail
        | false => match x with
          | .ptr id off => .ret ⟨.ptr id (off + fld.offset), []⟩
          | .elt id n i sub => .ret ⟨.elt id n i (sub + fld.offset), []⟩
          | _ => .fail
  | _ => .fail

def fieldS (s : TypeId) (x : SV) (f : Nat) : Rd Out :=
  match P.underlying s with
  | some (.struct fields) => match fields[f]? with
    | none => .fail
    | some fld => match x with
      | .agg c => loadS P fld.type c fld.offset
      | _ => .fail
  | _ => .fail

def indexAddrS (t : TypeId) (x i : SV) : Rd Out :=
  match i with
  | .v (.int _ i) => match P.underlying t with
    | some (.slice e) => match szT P e with
      | none => .fail
      | some z => match x with
        | .slc id n off len _ => cond (Nat.beq n z) (.obj id fun o => match o with
          | .cells _ _ => .br (decide (0 ≤ i)) (.br (decide (i < (len : Int))) (.ret ⟨.elt id n (off + i.toNat) 0, []⟩) .fail) .fail
          | .ro _ _ => .br (decide (0 ≤ i)) (.br (decide (i < (len : Int))) (.ret ⟨.elt id n (off + i.toNat) 0, []⟩) .fail) .fail
          | _ => .fail) .fail
        | .all id => .obj id fun o => match o with
          | .row _ s l => cond (Nat.beq s.length z) (.br (decide (0 ≤ i)) (.br (decide (i < (l.length : Int))) (.ret ⟨.elt id z i.toNat 0, []⟩) .fail) .fail) .fail
          | .arg s l => cond (Nat.beq s.length z) (.br (decide (0 ≤ i)) (.br (decide (i < (l.length : Int))) (.ret ⟨.elt id z i.toNat 0, []⟩) .fail) .fail) .fail
          | _ => .fail
        | _ => .fail
    | some (.array m e) => match szT P e with
      | none => .fail
      | some z => match x with
        | .ptr id off => .br (decide (0 ≤ i)) (.br (decide (i < (m : Int))) (.ret ⟨.ptr id (off + i.toNat * z), []⟩) .fail) .fail
        | _ => .fail
    | _ => .fail
  | _ => .fail

/-- A byte of a string. -/
def bt (s : ByteArray) (i : Int) : Int := match s[i.toNat]? with
  | some b => b.toNat
  | none => 0
def indexS (t : TypeId) (x i : SV) : Rd Out :=
  match i with
  | .v (.int _ i) => match P.underlying t with
    | some (.array m e) => match szT P e with
      | none => .fail
      | some z => match x with
        | .agg c => .br (decide (0 ≤ i)) (.br (decide (i < (m : Int))) (loadS P e c (i.toNat * z)) .fail) .fail
        | _ => .fail
    | some .string => match x with
      | .v (.string s) => .br (decide (0 ≤ i)) (.br (decide (i < (s.size : Int))) (.ret ⟨.v (.int .u8 (bt s i)), []⟩) .fail) .fail
      | _ => .fail
    | _ => .fail
  | _ => .fail

def lenS (t : TypeId) (x : SV) : Rd Out :=
  match P.underlying t with
  | some (.slice _) => match x with
    | .v (.slice none n _) => .ret ⟨.v (.int .i64 n), []⟩
    | .slc id _ _ len _ => .obj id fun o => match o with
      | .cells _ _ => .ret ⟨.v (.int .i64 len), []⟩
      | .ro _ _ => .ret ⟨.v (.int .i64 len), []⟩
      | _ => .fail
    | .all id => .obj id fun o => match o with
      | .row _ _ l => .ret ⟨.v (.int .i64 l.length), []⟩
      | .arg _ l => .ret ⟨.v (.int .i64 l.length), []⟩
      | _ => .fail
    | _ => .fail
  | some .string => match x with
    | .v (.string s) => .ret ⟨.v (.int .i64 s.size), []⟩
    | _ => .fail
  | some (.array m _) => .ret ⟨.v (.int .i64 m), []⟩
  | _ => .fail

def mx (a b : Int) : Int := if b > a then b else a
def mn (a b : Int) : Int := if b < a then b else a

def callS (c : Call) (ev : Operand → Option SV) (fr : Nat) : Rd Out :=
  match evL ev c.args.toList with
  | none => .fail
  | some args => match c.callee with
    | .value f => match ev f with
      | some (.fn (.func g) fi ca) => match C g with
        | none => .fail
        | some φ => φ (fi ++ args ++ ca) fr
      | _ => .fail
    | .invoke _ _ => .fail
    | .builtin b => match b with
      | .len => match c.argTypes.toList with
        | [t] => match args with
          | [x] => lenS P t x
          | _ => .fail
        | _ => .fail
      | .max => match args with
        | [.v (.int k a), .v (.int _ b)] => .ret ⟨.v (.int k (mx a b)), []⟩
        | _ => .fail
      | .min => match args with
        | [.v (.int k a), .v (.int _ b)] => .ret ⟨.v (.int k (mn a b)), []⟩
        | _ => .fail
      | _ => .fail

def eff (o : Oper) (ev : Operand → Option SV) (fr : Nat) : Rd Out :=
  match o.op with
  | .move x => w1 (ev x) fun s => .ret ⟨s, []⟩
  | .assign x => w1 (ev x) fun s => .ret ⟨s, []⟩
  | .pick c a b => w1 (ev c) fun c => w1 (ev a) fun a => w1 (ev b) fun b => match c with
    | .v (.bool t) => .br t (.ret ⟨a, []⟩) (.ret ⟨b, []⟩)
    | _ => .fail
  | .box elem x => w1 (ev x) fun s => .ret ⟨.ptr fr 0, [(fr, .cells elem (cellsS s))]⟩
  | .alloc elem => match zeroT P elem with
    | none => .fail
    | some z => .ret ⟨.ptr fr 0, [(fr, .cells elem (z.map SV.v))]⟩
  | .build t parts => match evParts ev parts.toList with
    | none => .fail
    | some ps => match builtS P t ps with
      | none => .fail
      | some cs => .ret ⟨.agg cs, []⟩
  | .buildSlice t len parts => match evParts ev parts.toList with
    | none => .fail
    | some ps => match P.underlying t with
      | some (.slice e) => match szT P e with
        | none => .fail
        | some n => match zeroT P e with
          | none => .fail
          | some z => cond (Nat.ble (len * n) 16777216 && !(Nat.beq (len * n) 0))
            (match fillS (fun i => some (i * n, n)) ((zerosS z (len * n)).map SV.v) ps with
              | none => .fail
              | some cs => .ret ⟨.slc fr n 0 len (some len), [(fr, .cells e cs)]⟩) .fail
      | _ => .fail
  | .load t a => w1 (ev a) fun s => match s with
    | .ptr id off => .obj id fun o => match o with
      | .cells _ c => loadS P t c off
      | .ro _ c => loadS P t c off
      | _ => .fail
    | .elt id n i sub => .obj id fun o => match o with
      | .cells _ c => loadS P t c (i * n + sub)
      | .ro _ c => loadS P t c (i * n + sub)
      | .row _ s l => cond (Nat.beq n s.length) (.br (decide (i < l.length)) (loadS P t ((enc s (l.getD i (dfl s))).map SV.v) sub) .fail) .fail
      | .arg s l => cond (Nat.beq n s.length) (.br (decide (i < l.length)) (loadS P t ((enc s (l.getD i (dfl s))).map SV.v) sub) .fail) .fail
      | _ => .fail
    | _ => .fail
  | .store t a x => w1 (ev a) fun s => w1 (ev x) fun x => match s with
    | .ptr id off => .obj id fun o => match o with
      | .cells ty c => storeS P t ty id c off x
      | _ => .fail
    | .elt id n i sub => .obj id fun o => match o with
      | .cells ty c => storeS P t ty id c (i * n + sub) x
      | _ => .fail
    | _ => .fail
  | .nilCheck x => w1 (ev x) nilS
  | .binOp op t x y _ => w1 (ev x) fun a => w1 (ev y) fun b => binS P op t a b
  | .unOp op _ x => w1 (ev x) (unS op)
  | .convert src dst x => w1 (ev x) (convS P src dst)
  | .makeFunc fn fi ca => match evL ev fi.toList with
    | none => .fail
    | some a => match evL ev ca.toList with
      | none => .fail
      | some b => .ret ⟨.fn fn a b, []⟩
  | .fieldAddr s x f => w1 (ev x) fun x => fieldAddrS P s x f
  | .field s x f => w1 (ev x) fun x => fieldS P s x f
  | .indexAddr t x i => w1 (ev x) fun x => w1 (ev i) fun i => indexAddrS P t x i
  | .index t x i => w1 (ev x) fun x => w1 (ev i) fun i => indexS P t x i
  | .extract x i => w1 (ev x) fun x => match x with
    | .tup l => match l[i]? with
      | none => .fail
      | some s => .ret ⟨s, []⟩
    | _ => .fail
  | .call c => callS P C c ev fr
  | _ => .fail

end
end Go.Proofs.Ytcheokphnhjomaa.Ax
