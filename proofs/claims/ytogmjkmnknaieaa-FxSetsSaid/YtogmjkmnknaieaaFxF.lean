/- The document's rates: find, Of, Convert. -/
import Derived.Test.YtogmjkmnknaieaaFxE
import Derived.Laws.Strings
import Derived.WideShapes
namespace Go.Proofs.Ytogmjkmnknaieaa.Ax
open Go Go.RowKit Go.Proofs.Ytogmjkmnknaieaa.Print
set_option linter.unusedVariables false
set_option linter.unusedSimpArgs false
abbrev st3F : List Sc := [.int .i64, .int .i64, .int .i64]
abbrev Q3F := Int × Int × Int
abbrev qRows : Pc := .row 29 stR
abbrev qStr : Pc := .one .str
abbrev qPer : Pc := .agg st3F
noncomputable def CR0 : FuncId → Option Con
  | 24 => some cNamed
  | 28 => some cGood
  | 25 => some cOfC
  | 27 => some cMulDiv
  | _ => none
theorem CR0_ok : ∀ B' g φ, CR0 g = some φ → ConOk Try.prog B' g φ := by
  intro B' g φ h
  unfold CR0 at h
  split at h <;> first | (cases h; done) | skip
  · cases h; exact cCurr_ok B'
  · cases h; exact cRGood_ok B'
  · cases h; exact cROf_ok B'
  · cases h; exact cRMulDiv_ok B'
def perEqF (p q : Q3F) : Bool := p.1 == q.1 && (p.2.1 == q.2.1 && (p.2.2 == q.2.2 && true))
def perOf (x : RF) : Q3F := (x.2.1, x.2.2.1, x.2.2.2.1)
abbrev OI := Option (Int × Unit)
def TFi : TbF
  | 2 => some ([0, 1, 5, 7], [])
  | _ => none
noncomputable def LFi (F kk : Nat) (l : List RF) (s : ByteArray) (q : Q3F) (i : Int) : OI := loopAt (eff Try.prog CR0) Try.f26.ntmps (cnRow 1 TFi) F Try.prog Try.f26 (KX [qInt]) [.R, .L, .R, .D] kk
  ⟨[(0, .all 0), (1, .v (.string s)), (5, .ptr 1 0), (7, vi i)], [(0, .arg stR l), (1, .cells 27 [vi q.1, vi q.2.1, vi q.2.2])], 3⟩
theorem LFi_eq (F kk : Nat) (l : List RF) (s : ByteArray) (q : Q3F) (i : Int) : LFi F (kk + 1) l s q i =
    sel (decide (i < (l.length : Int))) (idxP l i (sel ((rAt l i).1.toList == s.toList) (idxP l i (sel (perEqF (perOf (rAt l i)) q) (some (i, ())) (LFi F kk l s q (IT.wrap (i + 1))))) (LFi F kk l s q (IT.wrap (i + 1))))) (some (-1, ())) := by kernel_rfl
theorem find_tree (F : Nat) (l : List RF) (s : ByteArray) (q : Q3F) : evX Try.prog CR0 (cnRow 1 TFi) F Try.f26 [qRows, qStr, qPer] [qInt] (l, s, q, ()) = LFi F F l s q 0 := by kernel_rfl
def findFrom (k : KF) : List RF → Int → Int
  | [], _ => -1
  | x :: l, i => bif keyEq (keyOf x) k then i else findFrom k l (i + 1)
theorem findFrom_cons (k : KF) (x : RF) (l : List RF) (i : Int) : findFrom k (x :: l) i = bif keyEq (keyOf x) k then i else findFrom k l (i + 1) := rfl
def findV (l : List RF) (k : KF) : Int := findFrom k l 0
theorem keyEq_split (x : RF) (s : ByteArray) (q : Q3F) : keyEq (keyOf x) (s, q) = (x.1 == s && perEqF (perOf x) q) := by
  unfold keyEq keyOf perEqF perOf
  simp only [Bool.and_true]
theorem toList_eq (a b : ByteArray) : (a.toList == b.toList) = (a == b) := by
  rw [Bool.eq_iff_iff, beq_iff_eq]
  constructor
  · intro h
    rw [ByteArray.toList_eq, ByteArray.toList_eq] at h
    have : a = b := WideShapes.bytes_inj h
    rw [this]; exact ba_self b
  · intro h; rw [ba_eq h]
theorem find_run (F : Nat) (l : List RF) (s : ByteArray) (q : Q3F) (hl : l.length ≤ 1000) : ∀ (n i kk : Nat), i + n = l.length → n < kk → LFi F kk l s q i = some (findFrom (s, q) (l.drop i) i, ())
  | 0, i, kk, hi, hk => by
    obtain ⟨k, rfl⟩ : ∃ k, kk = k + 1 := ⟨kk - 1, by omega⟩
    rw [LFi_eq, decide_eq_false (by omega), sel_f, List.drop_eq_nil_of_le (by omega)]
    rfl
  | n + 1, i, kk, hi, hk => by
    obtain ⟨k, rfl⟩ : ∃ k, kk = k + 1 := ⟨kk - 1, by omega⟩
    have hlt : i < l.length := by omega
    have hw : IT.wrap ((i : Int) + 1) = ((i + 1 : Nat) : Int) := by
      show IntKind.i64.wrap _ = _
      rw [IntKind.wrap_i64]
      omega
    have ih := find_run F l s q hl n (i + 1) k (by omega) (by omega)
    have hr : rAt l i = l[i] := by
      unfold rAt
      rw [Int.toNat_natCast]
      unfold List.getD
      rw [List.getElem?_eq_getElem hlt]
      rfl
    have hc : ((i + 1 : Nat) : Int) = (i : Int) + 1 := by omega
    rw [LFi_eq, decide_eq_true (by omega), sel_t, idxP_ok hlt, idxP_ok hlt, hw, ih, List.drop_eq_getElem_cons hlt, hr, toList_eq, hc, findFrom_cons, keyEq_split]
    cases l[i].1 == s <;> cases perEqF (perOf l[i]) q <;> rfl
def capR {α : Type} (l : List RF) (x : Option α) : Option α := bif Nat.ble l.length 1000 then x else none
theorem capR_some {α : Type} {l : List RF} {x : Option α} {y : α} (h : capR l x = some y) : l.length ≤ 1000 ∧ x = some y := by
  unfold capR at h
  cases hb : Nat.ble l.length 1000 with
  | true => rw [hb] at h; exact ⟨Nat.le_of_ble_eq_true hb, h⟩
  | false => rw [hb] at h; cases h
noncomputable def cFindT : Con := conX [qRows, qStr, qPer] [qInt] (fun x => capR x.1 (some (findV x.1 (x.2.1, x.2.2.1), ())))
theorem cFindT_ok (B) : ConOk Try.prog B 26 cFindT :=
  conX_ok mixed Try.func26 (by kernel_rfl) (by kernel_rfl) CR0_ok (fun B' w => cnRow_ok (pin := 1) (T := TFi)) _ _ (by decide) (fun x : PT [qRows, qStr, qPer] => List.length (α := RF) x.1 + 1) _
    (fun x y h => by
      obtain ⟨h1, h2⟩ := capR_some h
      cases h2
      refine (find_tree _ x.1 x.2.1 x.2.2.1).trans ?_
      exact find_run _ x.1 x.2.1 x.2.2.1 h1 (List.length (α := RF) x.1) 0 _ (by omega) (by omega)) B
noncomputable def CR1 : FuncId → Option Con
  | 26 => some cFindT
  | g => CR0 g
theorem CR1_ok : ∀ B' g φ, CR1 g = some φ → ConOk Try.prog B' g φ := by
  intro B' g φ h
  unfold CR1 at h
  split at h
  · cases h; exact cFindT_ok B'
  · exact CR0_ok B' _ φ h
abbrev OI3 := Option (Int × Int × Int × Unit)
abbrev OI2 := Option (Int × Int × Unit)
def ofT (l : List RF) (s : ByteArray) (d : Int) : OI3 := sel (s.toList == ([] : List UInt8)) (some (1, 1, 0, ())) (sel (!namedV s) (some (0, 0, 40, ())) (sel ((ofV d 2).2.2.2 != 0) (some (0, 0, (ofV d 2).2.2.2, ()))
  (obnd (capR l (some (findV l (s, (ofV d 2).1, (ofV d 2).2.1, (ofV d 2).2.2.1), ()))) fun z => sel (decide (z.1 < 0)) (some (0, 0, 61, ())) (idxP l z.1 (idxP l z.1 (some ((rAt l z.1).2.2.2.2.1, (rAt l z.1).2.2.2.2.2, 0, ())))))))
theorem of_tree (l : List RF) (s : ByteArray) (d : Int) : evX Try.prog CR1 cn0 40 Try.f11 [qRows, qStr, qInt] [qInt, qInt, qInt] (l, s, d, ()) = ofT l s d := by kernel_rfl
noncomputable def cROfT : Con := conX [qRows, qStr, qInt] [qInt, qInt, qInt] fun x => ofT x.1 x.2.1 x.2.2.1
theorem cROfT_ok (B) : ConOk Try.prog B 11 cROfT :=
  toldP (lin := [qRows, qStr, qInt]) (lout := [qInt, qInt, qInt]) CR1_ok Try.func11 (by kernel_rfl) (by kernel_rfl) (fun x => ofT x.1 x.2.1 x.2.2.1) (fun x y h => (of_tree x.1 x.2.1 x.2.2.1).trans h) (by decide) B
noncomputable def CR2 : FuncId → Option Con
  | 11 => some cROfT
  | g => CR1 g
theorem CR2_ok : ∀ B' g φ, CR2 g = some φ → ConOk Try.prog B' g φ := by
  intro B' g φ h
  unfold CR2 at h
  split at h
  · cases h; exact cROfT_ok B'
  · exact CR1_ok B' _ φ h
def rcvT (l : List RF) (s : ByteArray) (d a : Int) : OI2 := obnd (ofT l s d) fun z => sel (z.2.2.1 != 0) (some (0, z.2.2.1, ())) (some ((mulDivV a z.1 z.2.1).1, (mulDivV a z.1 z.2.1).2, ()))
theorem rcv_tree (l : List RF) (s : ByteArray) (d a : Int) : evX Try.prog CR2 cn0 40 Try.f12 [qRows, qStr, qInt, qInt] [qInt, qInt] (l, s, d, a, ()) = rcvT l s d a := by kernel_rfl
noncomputable def cRCvT : Con := conX [qRows, qStr, qInt, qInt] [qInt, qInt] fun x => rcvT x.1 x.2.1 x.2.2.1 x.2.2.2.1
theorem cRCvT_ok (B) : ConOk Try.prog B 12 cRCvT :=
  toldP (lin := [qRows, qStr, qInt, qInt]) (lout := [qInt, qInt]) CR2_ok Try.func12 (by kernel_rfl) (by kernel_rfl) (fun x => rcvT x.1 x.2.1 x.2.2.1 x.2.2.2.1) (fun x y h => (rcv_tree x.1 x.2.1 x.2.2.1 x.2.2.2.1).trans h) (by decide) B
end Go.Proofs.Ytogmjkmnknaieaa.Ax
