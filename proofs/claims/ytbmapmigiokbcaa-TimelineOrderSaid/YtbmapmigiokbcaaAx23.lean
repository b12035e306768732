/- AX 23: callees that write to what they are handed, as plain functions of what stands there (conV); rows that are laid under names of their own at a callee's end. -/
import Derived.Test.YtbmapmigiokbcaaTlInsB
import Derived.Test.YtbmapmigiokbcaaLawX
import Derived.Test.YtbmapmigiokbcaaAx21
import Derived.Test.YtbmapmigiokbcaaRngA
import Derived.Test.YtbmapmigiokbcaaAx22
namespace Go.Proofs.Ytbmapmigiokbcaa.Ax
open Go Go.RowKit Go.Shelf Go.Proofs.Ytbmapmigiokbcaa.Print Go.Proofs.YtbmapmigiokbcaaW.PrintWords
set_option linter.unusedVariables false
set_option linter.unusedSimpArgs false
def lnR (id : Nat) (k : Nat → Int → List HV → Rd Out) : Rd Out := .obj id fun o => match o with
  | .cells 52 [.all j, .v (.int .i64 most)] => .obj j fun o2 => match o2 with
    | .row 55 s l => .opt (castL s stH l) (k j most)
    | _ => .fail
  | .ro 52 [.all j, .v (.int .i64 most)] => .obj j fun o2 => match o2 with
    | .row 55 s l => .opt (castL s stH l) (k j most)
    | _ => .fail
  | _ => .fail
theorem lnR_run {id : Nat} {k : Nat → Int → List HV → Rd Out} {h : Hp} {out : Out} {ids : List Nat} (hr : (lnR id k).run h = some (out, ids)) :
    ∃ j most l ids' o, look h id = some o ∧ (o = .cells 52 [.all j, .v (.int .i64 most)] ∨ o = .ro 52 [.all j, .v (.int .i64 most)]) ∧ look h j = some (.row 55 stH l) ∧ (k j most l).run h = some (out, ids') := by
  unfold lnR at hr
  obtain ⟨o, ids1, ho, hr⟩ := obj_run hr
  split at hr
  · rename_i j most
    obtain ⟨o2, ids2, ho2, hr⟩ := obj_run hr
    split at hr
    · obtain ⟨l, hl, hr⟩ := opt_run hr
      obtain ⟨rfl, rfl⟩ := castL_eq hl
      exact ⟨j, most, _, _, _, ho, .inl rfl, ho2, hr⟩
    · cases hr
  · rename_i j most
    obtain ⟨o2, ids2, ho2, hr⟩ := obj_run hr
    split at hr
    · obtain ⟨l, hl, hr⟩ := opt_run hr
      obtain ⟨rfl, rfl⟩ := castL_eq hl
      exact ⟨j, most, _, _, _, ho, .inr rfl, ho2, hr⟩
    · cases hr
  · cases hr
theorem flat_at3 (l : List (TT stH)) (j k : Nat) (hk : k < 3) : (flat stH l)[j * 3 + k]? = (l[j]?).bind fun x => (enc stH x)[k]? := by
  induction l generalizing j with
  | nil => rfl
  | cons y l ih =>
    have e : flat stH (y :: l) = enc stH y ++ flat stH l := by unfold flat; rw [List.map_cons, List.flatten_cons]
    have hy : (enc stH y).length = 3 := enc_length stH y
    rw [e]
    cases j with
    | zero =>
      rw [List.getElem?_append_left (by omega)]
      simp
    | succ j =>
      rw [List.getElem?_append_right (by omega), hy, show (j + 1) * 3 + k - 3 = j * 3 + k from by omega, ih j]
      simp
theorem row_cells {ty : TypeId} {ρ : Rho} {w : World} {L : Loc} {l : List HV} (h : OK ρ w L (.row ty stH l)) (hn : L.nil = false) (j : Nat) (hj : j < l.length) :
    w.cell? ⟨L.blk, j * 3, none⟩ = some (.int .i64 (l[j]?.getD (0, 0, 0)).1) ∧ w.cell? ⟨L.blk, j * 3 + 1, none⟩ = some (.int .i64 (l[j]?.getD (0, 0, 0)).2.1) ∧ w.cell? ⟨L.blk, j * 3 + 2, none⟩ = some (.int .i64 (l[j]?.getD (0, 0, 0)).2.2) := by
  obtain ⟨h0, ⟨h1, _⟩ | ⟨h1, h2, h3, arr, h4, h5, h6⟩⟩ := h
  · rw [hn] at h1; cases h1
  · have h6 : arr.toList.take (l.length * 3) = flat stH l := h6
    obtain ⟨x, y, z, hx⟩ : ∃ x y z, l[j]? = some (x, y, z) := ⟨_, _, _, List.getElem?_eq_getElem hj⟩
    rw [hx]
    have key : ∀ k u, k < 3 → (enc stH (x, y, z))[k]? = some u → w.cell? ⟨L.blk, j * 3 + k, none⟩ = some u := by
      intro k u hk hu
      have h7 : (flat stH l)[j * 3 + k]? = some u := (flat_at3 l j k hk).trans (by have hx' : (show List (TT stH) from l)[j]? = some (x, y, z) := hx; rw [hx']; exact hu)
      rw [← h6, List.getElem?_take_of_lt (by omega)] at h7
      rw [blk_cell' h4, ← Array.getElem?_toList, h7]
    exact ⟨key 0 _ (by omega) rfl, key 1 _ (by omega) rfl, key 2 _ (by omega) rfl⟩
theorem rowAt_OK {ρ : Rho} {w : World} {L : Loc} {l : List HV} (h : OK ρ w L (.row 55 stH l)) : RowAt w.heap.size w (rowVal L) l := by
  have h' := h
  obtain ⟨h0, ⟨h1, h2, h3, h4⟩ | ⟨h1, h2, h3, arr, h4, h5, h6⟩⟩ := h
  · refine .inl ⟨by unfold rowVal; rw [h1, h3, h4]; rfl, h2⟩
  · refine .inr ⟨L.blk, L.cap, ?_, (Array.getElem?_eq_some_iff.1 h4).1, fun j hj => row_cells h' h1 j hj⟩
    unfold rowVal
    rw [h1, h2, h0]
    rfl
structure LnAt (ρ : Rho) (w : World) (id j : Nat) (most : Int) (l : List HV) : Prop where
  ptr : den ρ (.ptr id 0) = .pointer (some ⟨(ρ id).blk, 0, none⟩)
  lt : (ρ id).blk < w.heap.size
  c0 : w.cell? ⟨(ρ id).blk, 0, none⟩ = some (rowVal (ρ j))
  c1 : w.cell? ⟨(ρ id).blk, 1, none⟩ = some (.int .i64 most)
  row : RowAt w.heap.size w (rowVal (ρ j)) l
theorem lnAt_of {B : Nat → Prop} {ρ : Rho} {h : Hp} {w : World} (hr : HR B ρ h w) {id j : Nat} {most : Int} {l : List HV} {o : AObj} (ho : look h id = some o)
    (ho' : o = .cells 52 [.all j, .v (.int .i64 most)] ∨ o = .ro 52 [.all j, .v (.int .i64 most)]) (hj : look h j = some (.row 55 stH l)) : LnAt ρ w id j most l := by
  have hk : (ρ id).nil = false ∧ (ρ id).off = 0 ∧ w.heap[(ρ id).blk]? = some (.cells (denL ρ [.all j, .v (.int .i64 most)]).toArray 52 (0, 0)) := by
    have := hr.ok _ _ ho
    rcases ho' with rfl | rfl <;> exact this
  obtain ⟨k1, k2, k3⟩ := hk
  refine ⟨by simp only [den, k2, Nat.add_zero], (Array.getElem?_eq_some_iff.1 k3).1, by rw [blk_cell' k3]; rfl, by rw [blk_cell' k3]; rfl, rowAt_OK (hr.ok _ _ hj)⟩
def lenOK (l : List HV) : Bool := Nat.ble l.length 1000000000
theorem lenOK_le {l : List HV} (h : lenOK l = true) : l.length ≤ 1000000000 := Nat.le_of_ble_eq_true h
def cNone : Con := fun args lo => match args with
  | [.ptr id 0] => lnR id fun j most l => .br (!decide (most = 0)) (.ret ⟨.v (.bool false), []⟩) .fail
  | _ => .fail
theorem cNone_ok (B) : ConOk Try.prog B 21 cNone := by
  intro args ρ h w lo out ids hr hrh hfr hfa up
  unfold cNone at hr
  split at hr
  · rename_i id
    obtain ⟨j, most, l, ids', o, ho, ho', hj, hr⟩ := lnR_run hr
    obtain ⟨hb, hr⟩ := br_run (h := h) hr
    cases hr
    have La := lnAt_of hrh ho ho' hj
    refine gives_same (s := .v (.bool false)) (fn := Try.f21) Try.func21 (by kernel_rfl) (by kernel_rfl) hrh up ?_
    simp only [denL, La.ptr]
    exact (none_line _ most w (by simpa using hb) La.c1).mono fun e w' ⟨h1, h2⟩ => ⟨h1, by rw [h2]; exact Below.refl _ _⟩
  · cases hr
def cRight : Con := fun args lo => match args with
  | [.agg [.v (.int .i64 a), .v (.int .i64 b)]] => .ret ⟨.v (.bool (rightB a b)), []⟩
  | _ => .fail
theorem cRight_ok (B) : ConOk Try.prog B 19 cRight := by
  intro args ρ h w lo out ids hr hrh hfr hfa up
  unfold cRight at hr
  split at hr
  · rename_i a b
    cases hr
    exact gives_same (s := .v (.bool (rightB a b))) (fn := Try.f19) Try.func19 (by kernel_rfl) (by kernel_rfl) hrh up (timeline_Span_right.calls a b _ w (pro_right a b))
  · cases hr
theorem ref_right (a b : Int) : octroiref13_Right.f a b = some (rightB a b) := by
  unfold octroiref13_Right.f rightB
  by_cases h1 : a ≥ 0
  · by_cases h2 : b ≤ 2932896
    · rw [if_pos h1, if_pos h2, decide_eq_true (show 0 ≤ a from h1), decide_eq_true h2]; rfl
    · rw [if_pos h1, if_neg h2, decide_eq_true (show 0 ≤ a from h1), decide_eq_false h2]; rfl
  · rw [if_neg h1, decide_eq_false (show ¬ 0 ≤ a from h1)]; rfl
def cRRight : Con := fun args lo => match args with
  | [.v (.int .i64 a), .v (.int .i64 b)] => .ret ⟨.v (.bool (rightB a b)), []⟩
  | _ => .fail
theorem cRRight_ok (B) : ConOk Try.prog B 20 cRRight := by
  intro args ρ h w lo out ids hr hrh hfr hfa up
  unfold cRRight at hr
  split at hr
  · rename_i a b
    cases hr
    exact gives_same (s := .v (.bool (rightB a b))) (fn := Try.f20) Try.func20 (by kernel_rfl) (by kernel_rfl) hrh up (((octroiref13_Right.calls a b _ w (ref_right a b))).mono fun e w' h => ⟨h.1, by first | exact h.2 | exact h.2.below⟩)
  · cases hr
def cMeet : Con := fun args lo => match args with
  | [.agg [.v (.int .i64 a), .v (.int .i64 b)], .agg [.v (.int .i64 c), .v (.int .i64 d)]] => .ret ⟨.tup [.agg [.v (.int .i64 (meetV a b c d).1), .v (.int .i64 (meetV a b c d).2.1)], .v (.bool (meetV a b c d).2.2)], []⟩
  | _ => .fail
theorem cMeet_ok (B) : ConOk Try.prog B 6 cMeet := by
  intro args ρ h w lo out ids hr hrh hfr hfa up
  unfold cMeet at hr
  split at hr
  · rename_i a b c d
    cases hr
    exact gives_same (s := .tup [.agg [.v (.int .i64 (meetV a b c d).1), .v (.int .i64 (meetV a b c d).2.1)], .v (.bool (meetV a b c d).2.2)]) (fn := Try.f6) Try.func6 (by kernel_rfl) (by kernel_rfl) hrh up (timeline_Meet.calls 1 a b c d _ _ _ w (pro_meet a b c d))
  · cases hr
def cFind : Con := fun args lo => match args with
  | [.ptr id 0, .v (.int .i64 d)] => lnR id fun j most l => .br (lenOK l) (.ret ⟨.v (.int .i64 (findV l d)), []⟩) .fail
  | _ => .fail
theorem cFind_ok (B) : ConOk Try.prog B 22 cFind := by
  intro args ρ h w lo out ids hr hrh hfr hfa up
  unfold cFind at hr
  split at hr
  · rename_i id d
    obtain ⟨j, most, l, ids', o, ho, ho', hj, hr⟩ := lnR_run hr
    obtain ⟨hb, hr⟩ := br_run (h := h) hr
    cases hr
    have La := lnAt_of hrh ho ho' hj
    refine gives_same (s := .v (.int .i64 (findV l d))) (fn := Try.f22) Try.func22 (by kernel_rfl) (by kernel_rfl) hrh up ?_
    simp only [denL, La.ptr]
    exact find_line _ _ l d (lenOK_le hb) w La.c0 La.row
  · cases hr
def cAt : Con := fun args lo => match args with
  | [.ptr id 0, .v (.int .i64 d)] => lnR id fun j most l => .br (!decide (most = 0) && lenOK l) (.ret ⟨.tup [.v (.int .i64 (atV l d).1), .v (.bool (atV l d).2)], []⟩) .fail
  | _ => .fail
theorem cAt_ok (B) : ConOk Try.prog B 12 cAt := by
  intro args ρ h w lo out ids hr hrh hfr hfa up
  unfold cAt at hr
  split at hr
  · rename_i id d
    obtain ⟨j, most, l, ids', o, ho, ho', hj, hr⟩ := lnR_run hr
    obtain ⟨hb, hr⟩ := br_run (h := h) hr
    cases hr
    rw [Bool.and_eq_true] at hb
    have La := lnAt_of hrh ho ho' hj
    refine gives_same (s := .tup [.v (.int .i64 (atV l d).1), .v (.bool (atV l d).2)]) (fn := Try.f12) Try.func12 (by kernel_rfl) (by kernel_rfl) hrh up ?_
    simp only [denL, La.ptr]
    exact at_line _ _ most (by simpa using hb.1) l d (lenOK_le hb.2) w La.lt La.c0 La.c1 La.row
  · cases hr
def cLen : Con := fun args lo => match args with
  | [.ptr id 0] => lnR id fun j most l => .br (!decide (most = 0)) (.ret ⟨.v (.int .i64 l.length), []⟩) .fail
  | _ => .fail
theorem cLen_ok (B) : ConOk Try.prog B 13 cLen := by
  intro args ρ h w lo out ids hr hrh hfr hfa up
  unfold cLen at hr
  split at hr
  · rename_i id
    obtain ⟨j, most, l, ids', o, ho, ho', hj, hr⟩ := lnR_run hr
    obtain ⟨hb, hr⟩ := br_run (h := h) hr
    cases hr
    have La := lnAt_of hrh ho ho' hj
    refine gives_same (s := .v (.int .i64 l.length)) (fn := Try.f13) Try.func13 (by kernel_rfl) (by kernel_rfl) hrh up ?_
    simp only [denL, La.ptr]
    exact (len_line _ _ most (by simpa using hb) l w La.c0 La.c1 La.row).mono fun e w' ⟨h1, h2⟩ => ⟨h1, by rw [h2]; exact Below.refl _ _⟩
  · cases hr
def cGap : Con := fun args lo => match args with
  | [.ptr id 0, .agg [.v (.int .i64 a), .v (.int .i64 b)]] => lnR id fun j most l => .br (!decide (most = 0) && lenOK l) (.ret ⟨.v (.int .i64 (gapV (a, b) l)), []⟩) .fail
  | _ => .fail
theorem cGap_ok (B) : ConOk Try.prog B 17 cGap := by
  intro args ρ h w lo out ids hr hrh hfr hfa up
  unfold cGap at hr
  split at hr
  · rename_i id a b
    obtain ⟨j, most, l, ids', o, ho, ho', hj, hr⟩ := lnR_run hr
    obtain ⟨hb, hr⟩ := br_run (h := h) hr
    cases hr
    rw [Bool.and_eq_true] at hb
    have La := lnAt_of hrh ho ho' hj
    refine gives_same (s := .v (.int .i64 (gapV (a, b) l))) (fn := Try.f17) Try.func17 (by kernel_rfl) (by kernel_rfl) hrh up ?_
    simp only [denL, La.ptr]
    exact callsIn_wide.1 (gap_in _ _ most (by simpa using hb.1) a b l (lenOK_le hb.2) w La.lt La.c0 La.c1 La.row)
  · cases hr
def s27 (x : HV) : S27 := ⟨x.1, x.2.1, x.2.2⟩
theorem C27_of_row {ty : TypeId} {ρ : Rho} {w : World} {L : Loc} {l : List HV} (h : OK ρ w L (.row ty stH l)) (hl : l.length ≤ 1000000000) :
    ∃ A c, rowVal L = .slice A (l.map s27).length c ∧ (l.map s27).length ≤ c ∧ Kd.C k27 w A (l.map s27).length (l.map s27) := by
  have h' := h
  obtain ⟨h0, ⟨h1, h2, h3, h4⟩ | ⟨h1, h2, h3, arr, h4, h5, h6⟩⟩ := h
  · have h2 : l = ([] : List HV) := h2
    subst h2
    exact ⟨none, 0, by unfold rowVal; rw [h1, h3, h4]; rfl, Nat.zero_le _, rfl, by simp, fun h => by simp at h⟩
  · refine ⟨some ⟨L.blk, 0, none⟩, L.cap, by unfold rowVal; rw [h1, h2, h0, List.length_map]; rfl, by rw [List.length_map]; exact h3, rfl, by rw [List.length_map]; omega, fun _ => ⟨_, rfl, fun j p hp => ?_⟩⟩
    rw [List.getElem?_map] at hp
    cases hx : l[j]? with
    | none => rw [hx] at hp; cases hp
    | some x =>
      rw [hx] at hp
      cases hp
      have hj : j < l.length := (List.getElem?_eq_some_iff.1 hx).1
      obtain ⟨c0, c1, c2⟩ := row_cells h' h1 j hj
      rw [hx] at c0 c1 c2
      refine ⟨[.int .i64 x.1, .int .i64 x.2.1, .int .i64 x.2.2], rfl, k27_mk w (s27 x), fun i u hu => ?_⟩
      show w.cell? ((⟨L.blk, 0, none⟩ : Addr).add (j * 3 + i)) = some u
      rw [Addr.add_lit, Nat.zero_add]
      match i, hu with
      | 0, hu => cases hu; exact c0
      | 1, hu => cases hu; exact c1
      | 2, hu => cases hu; exact c2
      | i + 3, hu => simp at hu
def refR (id : Nat) (k : List HV → Rd Out) : Rd Out := .obj id fun o => match o with
  | .row 27 s l => .opt (castL s stH l) k
  | _ => .fail
theorem refR_run {id : Nat} {k : List HV → Rd Out} {h : Hp} {out : Out} {ids : List Nat} (hr : (refR id k).run h = some (out, ids)) : ∃ l ids', look h id = some (.row 27 stH l) ∧ (k l).run h = some (out, ids') := by
  unfold refR at hr
  obtain ⟨o, ids1, ho, hr⟩ := obj_run hr
  split at hr
  · obtain ⟨l, hl, hr⟩ := opt_run hr
    obtain ⟨rfl, rfl⟩ := castL_eq hl
    exact ⟨_, _, ho, hr⟩
  · cases hr
def likeP (most : Int) (zs l : List HV) (d : Int) : Prop := most ≠ 0 ∧ zs.length ≤ 1000000000 ∧ l.length ≤ 1000000000 ∧ ∃ k1 k2 ss, octroiref13_Sorted.f k1 (l.map s27) = some ss ∧ ss.map tr27 = zs ∧ octroiref13_At.f k2 (l.map s27) d = some (atV zs d)
noncomputable def cLike : Con := fun args lo => match args with
  | [.ptr id 0, .all jw, .v (.int .i64 d)] => lnR id fun j most zs => refR jw fun l => .br (cdec (likeP most zs l d)) (.ret ⟨.v (.bool true), []⟩) .fail
  | _ => .fail
theorem cLike_ok (B) : ConOk Try.prog B 15 cLike := by
  intro args ρ h w lo out ids hr hrh hfr hfa up
  unfold cLike at hr
  split at hr
  · rename_i id jw d
    obtain ⟨j, most, zs, ids', o, ho, ho', hj, hr⟩ := lnR_run hr
    obtain ⟨l, ids2, hw, hr⟩ := refR_run hr
    obtain ⟨hb, hr⟩ := br_run (h := h) hr
    cases hr
    obtain ⟨p1, p2, p3, k1, k2, ss, q1, q2, q3⟩ := cdec_true.1 hb
    have La := lnAt_of hrh ho ho' hj
    obtain ⟨A, c, e1, e2, e3⟩ := C27_of_row (hrh.ok _ _ hw) p3
    refine gives_same (s := .v (.bool true)) (fn := Try.f15) Try.func15 (by kernel_rfl) (by kernel_rfl) hrh up ?_
    simp only [denL, La.ptr, den_all_rowVal, e1]
    exact callsIn_wide.1 (like_in _ _ most p1 zs p2 w La.lt La.c0 La.c1 La.row A c _ e3 e2 d k1 k2 ss q1 q2 q3)
  · cases hr
noncomputable def rGapV (l : List HV) (a b : Int) : Option Int := open Classical in if h : ∃ n k, octroiref13_Gap.f k (l.map s27) a b = some n then some h.choose else none
theorem rGapV_some {l : List HV} {a b n : Int} (h : rGapV l a b = some n) : ∃ k, octroiref13_Gap.f k (l.map s27) a b = some n := by
  unfold rGapV at h
  split at h
  · rename_i hx; cases h; exact hx.choose_spec
  · cases h
noncomputable def cRGap : Con := fun args lo => match args with
  | [.all jw, .v (.int .i64 a), .v (.int .i64 b)] => refR jw fun l => .br (lenOK l) (.opt (rGapV l a b) fun n => .ret ⟨.v (.int .i64 n), []⟩) .fail
  | _ => .fail
theorem cRGap_ok (B) : ConOk Try.prog B 18 cRGap := by
  intro args ρ h w lo out ids hr hrh hfr hfa up
  unfold cRGap at hr
  split at hr
  · rename_i jw a b
    obtain ⟨l, ids2, hw, hr⟩ := refR_run hr
    obtain ⟨hb, hr⟩ := br_run (h := h) hr
    obtain ⟨n, hn, hr⟩ := opt_run hr
    cases hr
    obtain ⟨k, hk⟩ := rGapV_some hn
    obtain ⟨A, c, e1, e2, e3⟩ := C27_of_row (hrh.ok _ _ hw) (lenOK_le hb)
    refine gives_same (s := .v (.int .i64 n)) (fn := Try.f18) Try.func18 (by kernel_rfl) (by kernel_rfl) hrh up ?_
    simp only [denL, den_all_rowVal, e1]
    exact octroiref13_Gap.calls k A c _ a b n w e3 e2 hk
  · cases hr
end Go.Proofs.Ytbmapmigiokbcaa.Ax
namespace Go.Proofs.Ytbmapmigiokbcaa.Ax
open Go Go.RowKit Go.Shelf Go.Proofs.Ytbmapmigiokbcaa.Print Go.Proofs.YtbmapmigiokbcaaW.PrintWords
set_option linter.unusedVariables false
set_option linter.unusedSimpArgs false
theorem sl_nil (w : World) : (binOp BinOp.eql 50 (.slice none 0 0) (.slice none 0 0)).run Try.prog w = .ok (.bool true) w := by
  have hu := Try.underlying50
  have gen : ∀ d, (Op.equalIn (d + 1) 50 (.slice none 0 0) (.slice none 0 0)).run Try.prog w = .ok true w := by
    intro d
    simp only [Op.equalIn, Sem.run_bind, run_underlying hu, Result.andThen_ok, Sem.run_pure]
    rfl
  have e1 : (Op.equal 50 (.slice none 0 0) (.slice none 0 0)).run Try.prog w = .ok true w := gen 9999
  simp [binOp, Sem.run_bind, e1]
theorem sl_some (a : Addr) (n c : Nat) (w : World) : (binOp BinOp.eql 50 (.slice (some a) n c) (.slice none 0 0)).run Try.prog w = .ok (.bool false) w := by
  have hu := Try.underlying50
  have gen : ∀ d, (Op.equalIn (d + 1) 50 (.slice (some a) n c) (.slice none 0 0)).run Try.prog w = .ok false w := by
    intro d
    simp only [Op.equalIn, Sem.run_bind, run_underlying hu, Result.andThen_ok, Sem.run_pure]
  have e1 : (Op.equal 50 (.slice (some a) n c) (.slice none 0 0)).run Try.prog w = .ok false w := gen 9999
  simp [binOp, Sem.run_bind, e1]
attribute [local go_sem] sl_nil sl_some
set_option maxRecDepth 100000 in
set_option maxHeartbeats 2000000 in
theorem clone_row {ρ : Rho} {L : Loc} (l : List (TT stH)) (w : World) (hbig : l.length ≤ 1000000000) (hok : OK ρ w L (.row 55 stH l)) :
    Calls Try.prog 24 #[rowVal L] w fun e w' => ∃ L' : Loc, e = .returned (rowVal L') ∧ (∀ ρ', OK ρ' w' L' (.row 55 stH l)) ∧ (L'.nil = false → w.heap.size ≤ L'.blk) ∧
      w'.os = w.os ∧ w'.tape = w.tape ∧ w'.output = w.output ∧ w.heap.size ≤ w'.heap.size ∧ ∀ b, b < w.heap.size → w'.heap[b]? = w.heap[b]? := by
  obtain ⟨i0, hi0, hz0, hzs, hzb⟩ := info_parts infoH
  have u50 := Try.underlying50
  have hok' := hok
  obtain ⟨h0, ⟨h1, h2, h3, h4⟩ | ⟨h1, h2, h3, arr, h4, h5, h6⟩⟩ := hok
  · have hv : rowVal L = .slice none 0 0 := by unfold rowVal; rw [h1, h3, h4]; rfl
    rw [hv]
    go_enter Try.func24, Try.ntmps24
    go_wp2
    go_ret
    exact ⟨⟨0, 0, 0, 0, true, none⟩, rfl, fun ρ' => ⟨by rw [h2]; rfl, .inl ⟨rfl, h2, rfl, rfl⟩⟩, fun h => (by cases h), rfl, rfl, rfl, Nat.le_refl _, fun _ _ => rfl⟩
  · have hv : rowVal L = .slice (some ⟨L.blk, 0, none⟩) l.length L.cap := by unfold rowVal; rw [h1, h2, h0]; rfl
    obtain ⟨W1, hW1⟩ : ∃ W1, W1 = w.alloc (.cells #[] 55) := ⟨_, rfl⟩
    have hok0 : ∀ ρ', OK ρ' W1 ⟨w.heap.size, 0, 0, 0, false, none⟩ (.row 55 stH []) := fun ρ' => ⟨rfl, .inr ⟨rfl, rfl, Nat.le_refl _, #[], by rw [hW1]; exact heap_alloc_new w _, rfl, rfl⟩⟩
    have hold1 : ∀ b, b < w.heap.size → W1.heap[b]? = w.heap[b]? := fun b hb => by rw [hW1]; exact Below.heap_alloc w _ b hb
    have hb0 : L.blk < w.heap.size := (Array.getElem?_eq_some_iff.1 h4).1
    have hcell : ∀ j u, (flat stH l)[j]? = some u → W1.cell? ((⟨L.blk, 0, none⟩ : Addr).add j) = some u := by
      intro j u hu
      have h4' : W1.heap[L.blk]? = some (.cells arr 55 (0, 0)) := (hold1 _ hb0).trans h4
      rw [Addr.add_lit, Nat.zero_add, blk_cell' h4', ← Array.getElem?_toList]
      have hj : j < l.length * stH.length := by
        have := (List.getElem?_eq_some_iff.1 hu).1
        rwa [flat_length] at this
      rw [← List.getElem?_take_of_lt hj, h6]
      exact hu
    obtain ⟨L', w', hrun, hL', hok2, o1, o2, o3, hsz, hold2, hlb⟩ : ∃ L' w', (∀ ty, (Builtin.append_ #[50, 50] ty #[.slice (some ⟨w.heap.size, 0, none⟩) 0 0, .slice (some ⟨L.blk, 0, none⟩) l.length L.cap]).run Try.prog W1 = .ok (rowVal L') w') ∧ L'.nil = false ∧
        (∀ ρ', OK ρ' w' L' (.row 55 stH l)) ∧ w'.os = w.os ∧ w'.tape = w.tape ∧ w'.output = w.output ∧ w.heap.size ≤ w'.heap.size ∧ (∀ b, b < w.heap.size → w'.heap[b]? = w.heap[b]?) ∧ w.heap.size ≤ L'.blk := by
      by_cases hl0 : l.length = 0
      · have hl : l = [] := List.length_eq_zero_iff.1 hl0
        subst hl
        refine ⟨⟨w.heap.size, 0, 0, 0, false, none⟩, W1, fun ty => ?_, rfl, hok0, by rw [hW1]; rfl, by rw [hW1]; rfl, by rw [hW1]; rfl, by rw [hW1]; simp, hold1, Nat.le_refl _⟩
        exact run_append_nothing (P := Try.prog) u50 hi0 (some ⟨w.heap.size, 0, none⟩) 0 0 (Nat.le_refl _) _ (Go.Src.ofSlice W1 u50 _ 0 L.cap [] (by simp) (fun j u hu => by simp at hu) (fun u hu => by cases hu))
      · obtain ⟨L', w', r1, r2, r3, r4, r5, r6, r7, r8⟩ := append_core (P := Try.prog) (ty := 50) (w := W1) u50 hi0 hz0 (by rw [hzs]; rfl) (by rw [hzs]; decide) (by rw [hzb]; decide) (sc := stH) (by rw [hzs]; rfl) (l := []) (xs := l) (by simpa using hbig) (Nat.pos_of_ne_zero hl0) (hok0 ρ) ⟨L.blk, 0, none⟩ L.cap hcell
        have hs1 : W1.heap.size = w.heap.size + 1 := by rw [hW1]; simp
        refine ⟨L', w', fun ty => r1, r2, fun ρ' => r3 ρ', r4.trans (by rw [hW1]; rfl), r5.trans (by rw [hW1]; rfl), r6.trans (by rw [hW1]; rfl), by omega, ?_, ?_⟩
        · intro b hb
          rcases r8 with ⟨_, q1, q2, q3⟩ | ⟨q1, q2⟩
          · exact (q3 b (by show b ≠ w.heap.size; omega)).trans (hold1 b hb)
          · exact (q2 b (by omega)).trans (hold1 b hb)
        · rcases r8 with ⟨_, q1, q2, q3⟩ | ⟨q1, q2⟩
          · rw [q2]; exact Nat.le_refl _
          · rw [q1]; omega
    rw [hv]
    rw [hW1] at hrun
    go_enter Try.func24, Try.ntmps24
    go_wp2_with (at_builtin; refine Lib.wpList_append_run _ rfl _ _ _ _ rfl _ _ rfl rfl _ _ (hrun _) ?_)
    go_ret
    exact ⟨L', rfl, hok2, fun _ => hlb, o1, o2, o3, hsz, hold2⟩
def cSClone : Con := fun args lo => match args with
  | [.all id] => .obj id fun o => match o with
    | .row 55 s l => .opt (castL s stH l) fun l => .br (lenOK l) (.ret ⟨.all lo, [(lo, .row 55 stH l)]⟩) .fail
    | _ => .fail
  | _ => .fail
theorem cSClone_ok (B) : ConOk Try.prog B 24 cSClone := by
  intro args ρ h w lo out ids hr hrh hfr hfa up
  unfold cSClone at hr
  split at hr
  · rename_i id
    obtain ⟨o, ids1, ho, hr⟩ := obj_run hr
    split at hr
    · obtain ⟨l, hl, hr⟩ := opt_run hr
      obtain ⟨rfl, rfl⟩ := castL_eq hl
      obtain ⟨hb, hr⟩ := br_run (h := h) hr
      cases hr
      refine .inl ⟨Go.run_callFunc_enter' Try.func24 (by kernel_rfl) rfl _ _, ?_⟩
      simp only [denL, den_all_rowVal]
      refine (clone_row _ w (lenOK_le hb) (hrh.ok _ _ ho)).mono ?_
      rintro e w' ⟨L', rfl, r3, hL, r4, r5, r6, r7, r8⟩
      have mk := made_new (B := B) (lo := lo) (hi := lo + wide) (s := .all lo) (o := .row 55 stH _) (L := L') hrh hfr (by unfold wide; omega) up ⟨r4, r5, r6, r7, fun b hb => r8 b (by
        rcases Nat.lt_or_ge b w.heap.size with h' | h'
        · exact h'
        · exact absurd (up b h') hb)⟩ r8 rfl hL (r3 _)
      refine ⟨_, rfl, setRho ρ lo L', ?_⟩
      rw [den_all_rowVal, setRho_same] at mk
      exact mk
    · cases hr
  · cases hr
end Go.Proofs.Ytbmapmigiokbcaa.Ax
namespace Go.Proofs.Ytbmapmigiokbcaa.Ax
open Go Go.RowKit Go.Shelf Go.Proofs.Ytbmapmigiokbcaa.Print Go.Proofs.YtbmapmigiokbcaaW.PrintWords
set_option linter.unusedVariables false
set_option linter.unusedSimpArgs false
def nilLoc : Loc := ⟨0, 0, 0, 0, true, none⟩
theorem made_two {B : Nat → Prop} {ρ : Rho} {h : Hp} {w w' : World} {lo hi : Nat} {ty e : TypeId} {sc : List Sc} {x : Value} {b : Nat} (hr : HR B ρ h w) (hf : HFree lo hi h) (hlo : lo + 1 < hi) (up : ∀ b, w.heap.size ≤ b → B b) (hk : Keeps B w w')
    (hold : ∀ b, b < w.heap.size → w'.heap[b]? = w.heap[b]?) (hb : w.heap.size ≤ b) (hh : w'.heap[b]? = some (.cells #[.slice none 0 0, x] ty (0, 0))) :
    Made B ρ h w lo hi ⟨.ptr lo 0, [(lo, .cells ty [.all (lo + 1), .v x]), (lo + 1, .row e sc [])]⟩ (setRho (setRho ρ lo ⟨b, 0, 0, 0, false, none⟩) (lo + 1) nilLoc) (.pointer (some ⟨b, 0, none⟩)) w' := by
  obtain ⟨ρ', hρ'⟩ : ∃ ρ', ρ' = setRho (setRho ρ lo ⟨b, 0, 0, 0, false, none⟩) (lo + 1) nilLoc := ⟨_, rfl⟩
  have e0 : ρ' lo = ⟨b, 0, 0, 0, false, none⟩ := by rw [hρ', setRho_other _ _ (by omega), setRho_same]
  have e1 : ρ' (lo + 1) = nilLoc := by rw [hρ', setRho_same]
  have e2 : ∀ i, i ≠ lo → i ≠ lo + 1 → ρ' i = ρ i := fun i h1 h2 => by rw [hρ', setRho_other _ _ h2, setRho_other _ _ h1]
  have hρ : ∀ i, i < lo ∨ hi ≤ i → ρ' i = ρ i := fun i hi => e2 i (by omega) (by omega)
  have hne : ∀ i x, look h i = some x → i ≠ lo ∧ i ≠ lo + 1 := fun i x hx => by have := (hf i x hx).1; omega
  have hkeep : HR B ρ h w' := hr.keep hk.size fun i x hx hd hn => hold _ ((hr.ok i x hx).lt hd hn)
  have lk : ∀ i o, look (puts h [(lo, .cells ty [.all (lo + 1), .v x]), (lo + 1, .row e sc [])]) i = some o → (i = lo + 1 ∧ o = .row e sc []) ∨ (i = lo ∧ o = .cells ty [.all (lo + 1), .v x]) ∨ (i ≠ lo ∧ i ≠ lo + 1 ∧ look h i = some o) := by
    intro i o hi
    simp only [puts, look_put] at hi
    by_cases h1 : lo + 1 = i
    · rw [if_pos h1] at hi; cases hi; exact .inl ⟨h1.symm, rfl⟩
    · rw [if_neg h1] at hi
      by_cases h2 : lo = i
      · rw [if_pos h2] at hi; cases hi; exact .inr (.inl ⟨h2.symm, rfl⟩)
      · rw [if_neg h2] at hi; exact .inr (.inr ⟨fun e => h2 e.symm, fun e => h1 e.symm, hi⟩)
  rw [← hρ']
  refine ⟨by simp only [den, e0, Nat.add_zero], hρ, ⟨?_, ?_, ?_, ?_⟩, hk⟩
  · intro i o hio
    rcases lk i o hio with ⟨rfl, rfl⟩ | ⟨rfl, rfl⟩ | ⟨h1, h2, h3⟩
    · rw [e1]; exact ⟨rfl, .inl ⟨rfl, rfl, rfl, rfl⟩⟩
    · rw [e0]
      refine ⟨rfl, rfl, ?_⟩
      have : (denL ρ' [.all (i + 1), .v x]).toArray = #[.slice none 0 0, x] := by simp only [denL, den, e1]; rfl
      rw [this]; exact hh
    · rw [e2 i h1 h2]
      exact (hkeep.ok i _ h3).keep (fun ty' c' e => denL_free (lo := lo) (hi := hi) hρ c' (free_cells (hf i _ h3).2 ty' c' e)) (fun _ => rfl) (Nat.le_refl _)
  · intro i o hi ho hn
    rcases lk i o hi with ⟨rfl, rfl⟩ | ⟨rfl, rfl⟩ | ⟨h1, h2, h3⟩
    · rw [e1] at hn; cases hn
    · rw [e0]; exact up _ hb
    · rw [e2 i h1 h2] at hn ⊢; exact hr.inB i o h3 ho hn
  · intro i o hi ho hn
    rcases lk i o hi with ⟨rfl, rfl⟩ | ⟨rfl, rfl⟩ | ⟨h1, h2, h3⟩
    · cases ho
    · cases ho
    · rw [e2 i h1 h2] at hn ⊢; exact hr.arg i o h3 ho hn
  · intro i j o o' hi hj ho ho' hni hnj hij
    have old : ∀ k q, look h k = some q → q.own = true → (ρ k).nil = false → (ρ k).blk < w.heap.size := fun k q hq hqo hqn => (hr.ok k q hq).lt (fun e => by subst e; cases hqo) hqn
    rcases lk i o hi with ⟨rfl, rfl⟩ | ⟨rfl, rfl⟩ | ⟨h1, h2, h3⟩
    · rw [e1] at hni; cases hni
    · rcases lk j o' hj with ⟨rfl, rfl⟩ | ⟨rfl, rfl⟩ | ⟨g1, g2, g3⟩
      · rw [e1] at hnj; cases hnj
      · exact absurd rfl hij
      · rw [e2 j g1 g2] at hnj ⊢
        rw [e0]
        have := old j o' g3 ho' hnj
        intro e; simp only at e; omega
    · rcases lk j o' hj with ⟨rfl, rfl⟩ | ⟨rfl, rfl⟩ | ⟨g1, g2, g3⟩
      · rw [e1] at hnj; cases hnj
      · rw [e2 i h1 h2] at hni ⊢
        rw [e0]
        have := old i o h3 ho hni
        intro e; simp only at e; omega
      · rw [e2 i h1 h2] at hni ⊢
        rw [e2 j g1 g2] at hnj ⊢
        exact hr.inj i j o o' h3 g3 ho ho' hni hnj hij
set_option maxRecDepth 100000 in
theorem new_yes (m : Int) (w : World) (h1 : 1 ≤ m) (h2 : m ≤ 256) : Calls Try.prog 9 #[.int .i64 m] w fun e w' => e = .returned (.pointer (some ⟨w.heap.size, 0, none⟩)) ∧ w' = w.alloc (.cells #[.slice none 0 0, .int .i64 m] 52) := by
  have c1 : decide (m < 1) = false := decide_eq_false (by omega)
  have c2 : decide (256 < m) = false := decide_eq_false (by omega)
  go_enter Try.func9, Try.ntmps9
  go_wp2
  go_ret
  exact ⟨rfl, rfl⟩
set_option maxRecDepth 100000 in
theorem new_no (m : Int) (w : World) (h1 : m < 1 ∨ 256 < m) : Calls Try.prog 9 #[.int .i64 m] w fun e w' => e = .returned (.pointer none) ∧ w' = w := by
  go_enter Try.func9, Try.ntmps9
  by_cases c : m < 1
  · have c1 : decide (m < 1) = true := decide_eq_true c
    go_wp2
    go_ret
    exact ⟨rfl, rfl⟩
  · have c1 : decide (m < 1) = false := decide_eq_false c
    have c2 : decide (256 < m) = true := decide_eq_true (by omega)
    go_wp2
    go_ret
    exact ⟨rfl, rfl⟩
def newOK (m : Int) : Bool := decide (1 ≤ m) && decide (m ≤ 256)
def cNew : Con := fun args lo => match args with
  | [.v (.int .i64 m)] => .br (newOK m) (.ret ⟨.ptr lo 0, [(lo, .cells 52 [.all (lo + 1), .v (.int .i64 m)]), (lo + 1, .row 55 stH [])]⟩) (.ret ⟨.v (.pointer none), []⟩)
  | _ => .fail
theorem br_run2 {α : Type} {b : Bool} {t s : Rd α} {h : Hp} {r : α} {ids : List Nat} (hr : (Rd.br b t s).run h = some (r, ids)) : (b = true ∧ t.run h = some (r, ids)) ∨ (b = false ∧ s.run h = some (r, ids)) := by
  cases b with
  | true => exact .inl ⟨rfl, hr⟩
  | false => exact .inr ⟨rfl, hr⟩
theorem cNew_ok (B) : ConOk Try.prog B 9 cNew := by
  intro args ρ h w lo out ids hr hrh hfr hfa up
  unfold cNew at hr
  split at hr
  · rename_i m
    rcases br_run2 (h := h) hr with ⟨hb, hr⟩ | ⟨hb, hr⟩
    · cases hr
      simp only [newOK, Bool.and_eq_true, decide_eq_true_eq] at hb
      refine .inl ⟨Go.run_callFunc_enter' Try.func9 (by kernel_rfl) rfl _ _, ?_⟩
      simp only [denL, den]
      refine (new_yes m w hb.1 hb.2).mono ?_
      rintro e w' ⟨rfl, rfl⟩
      refine ⟨_, rfl, _, made_two hrh hfr (by unfold wide; omega) up ⟨rfl, rfl, rfl, by simp, fun k hk => Below.heap_alloc w _ k ?_⟩ (fun b hb => Below.heap_alloc w _ b hb) (Nat.le_refl _) (heap_alloc_new w _)⟩
      rcases Nat.lt_or_ge k w.heap.size with h' | h'
      · exact h'
      · exact absurd (up k h') hk
    · cases hr
      have hb : m < 1 ∨ 256 < m := by
        simp only [newOK, Bool.and_eq_false_iff, decide_eq_false_iff_not] at hb
        omega
      refine gives_same (s := .v (.pointer none)) (fn := Try.f9) Try.func9 (by kernel_rfl) (by kernel_rfl) hrh up ?_
      simp only [denL, den]
      exact (new_no m w hb).mono fun e w' ⟨h1, h2⟩ => ⟨h1, by rw [h2]; exact Below.refl _ _⟩
  · cases hr
end Go.Proofs.Ytbmapmigiokbcaa.Ax
namespace Go.Proofs.Ytbmapmigiokbcaa.Ax
open Go Go.RowKit Go.Shelf Go.Proofs.Ytbmapmigiokbcaa.Print Go.Proofs.YtbmapmigiokbcaaW.PrintWords
set_option linter.unusedVariables false
set_option linter.unusedSimpArgs false
def cn0 : Nat → St → Option St := fun _ σ => some σ
theorem cn0_ok (B' : Nat → Prop) (w : Base) (n : Nat) : CnOk cn0 B' w n := fun k σ σ' h => by cases h; exact ⟨fun h => h, fun ρ a w hR => ⟨ρ, hR⟩⟩
abbrev vi (n : Int) : SV := .v (.int .i64 n)
abbrev IT : IntKind := .i64
def idxP {α β : Type} (l : List α) (i : Int) (x : Option β) : Option β := sel (decide (0 ≤ i)) (sel (decide (i < (l.length : Int))) (sel (decide (i.toNat < l.length)) x none) none) none
def rAt (l : List HV) (i : Int) : HV := List.getD l i.toNat (0, 0, 0)
noncomputable def CRs : FuncId → Option Con
  | 20 => some cRRight
  | _ => none
def TSt : Nat → Option (List Nat × List (Nat × TypeId × List Sc))
  | 4 => some ([0, 1, 5, 8], [])
  | _ => none
noncomputable def LSt (F kk : Nat) (l : List HV) (m a b x i : Int) : Option (SV × Hp) := loopAt (eff Try.prog CRs) Try.f16.ntmps (cnRow 1 TSt) F Try.prog Try.f16 (KG (gcSt [0] 1) 1) [.R, .R, .L, .R, .D] kk
  ⟨[(0, .all 0), (1, vi m), (5, .ptr 1 0), (8, vi i)], [(0, .row 27 stH l), (1, .cells 27 [vi a, vi b, vi x])], 3⟩
abbrev snoc (l : List HV) (y : HV) : List HV := l ++ [y]
def sAls (l : List HV) (e : Int) : Option (SV × Hp) := some (.tup [.all 0, vi e], [(0, .row 27 stH l)])
def sNew (l : List HV) (y : HV) : Option (SV × Hp) := some (.tup [.all 1, vi 0], [(0, .row 27 stH l), (1, .row 27 stH (snoc l y))])
def sEnd (l : List HV) (m : Int) (y : HV) : Option (SV × Hp) := sel (decide (m ≤ (l.length : Int))) (sAls l 31) (sel (Nat.ble (0 + l.length) 1000000000) (sel (Nat.ble (l.length + 1) 1000000000) (sNew l y) none) none)
theorem LSt_eq (F kk : Nat) (l : List HV) (m a b x i : Int) : LSt F (kk + 1) l m a b x i =
    sel (decide (i < (l.length : Int))) (idxP l i (sel (decide ((rAt l i).1 ≤ b)) (idxP l i (sel (decide (a ≤ (rAt l i).2.1)) (sAls l 50) (LSt F kk l m a b x (IT.wrap (i + 1))))) (LSt F kk l m a b x (IT.wrap (i + 1))))) (sEnd l m (a, b, x)) := by kernel_rfl
noncomputable def rsEv (F : Nat) (l : List HV) (m a b x : Int) : Option (SV × Hp) := evFn Try.prog CRs (cnRow 1 TSt) F Try.f16 [.all 0, vi m, .agg [vi a, vi b, vi x]] [(0, .row 27 stH l)] 1 (KG (gcSt [0] 1) 1)
theorem rs_tree (F : Nat) (l : List HV) (m a b x : Int) : rsEv F l m a b x = sel (!rightB a b) (sAls l 30) (LSt F F l m a b x 0) := by kernel_rfl
def clashB (a b : Int) (l : List HV) : Bool := l.any fun h => decide (h.1 ≤ b) && decide (a ≤ h.2.1)
theorem idxP_at {β : Type} (l : List HV) (i : Nat) (h : i < l.length) (x : Option β) : idxP l i x = x := by
  unfold idxP
  rw [decide_eq_true (by omega), decide_eq_true (by omega), decide_eq_true (by omega)]
  rfl
theorem rAt_at (l : List HV) (i : Nat) (h : i < l.length) : rAt l i = l[i] := by
  unfold rAt; simp [h]
theorem sel_t {α : Type} (x y : Option α) : sel true x y = x := rfl
theorem sel_f {α : Type} (x y : Option α) : sel false x y = y := rfl
theorem wrap_i (n : Nat) (h : n ≤ 1000000) : IT.wrap (((n : Nat) : Int) + 1) = ((n + 1 : Nat) : Int) := by
  show IntKind.i64.wrap _ = _
  rw [IntKind.wrap_i64]
  omega
theorem LSt_run (F : Nat) (l : List HV) (m a b x : Int) (hl : l.length ≤ 1000) : ∀ (n i kk : Nat), i + n = l.length → n < kk → LSt F kk l m a b x i = sel (clashB a b (l.drop i)) (sAls l 50) (sEnd l m (a, b, x))
  | 0, i, kk, hi, hk => by
    obtain ⟨k, rfl⟩ : ∃ k, kk = k + 1 := ⟨kk - 1, by omega⟩
    rw [LSt_eq, decide_eq_false (by simp; omega), sel_f, List.drop_eq_nil_of_le (by omega)]
    rfl
  | n + 1, i, kk, hi, hk => by
    obtain ⟨k, rfl⟩ : ∃ k, kk = k + 1 := ⟨kk - 1, by omega⟩
    have hlt : i < l.length := by omega
    have ih := LSt_run F l m a b x hl n (i + 1) k (by omega) (by omega)
    rw [LSt_eq, decide_eq_true (by show (i : Int) < (l.length : Int); omega), sel_t, wrap_i i (by omega), ih]
    show idxP (l : List HV) i _ = _
    rw [idxP_at (l : List HV) i hlt, rAt_at (l : List HV) i hlt, List.drop_eq_getElem_cons hlt]
    show sel _ (idxP (l : List HV) i _) _ = sel ((decide (l[i].1 ≤ b) && decide (a ≤ l[i].2.1)) || clashB a b (l.drop (i + 1))) _ _
    rw [idxP_at (l : List HV) i hlt]
    cases decide (l[i].1 ≤ b) <;> cases decide (a ≤ l[i].2.1) <;> rfl
def rOkB (l : List HV) (m a b : Int) : Bool := rightB a b && (!clashB a b l && !decide (m ≤ (l.length : Int)))
def rErr (l : List HV) (m a b : Int) : Int := bif !rightB a b then 30 else bif clashB a b l then 50 else 31
theorem rs_run (l : List HV) (m a b x : Int) (hl : l.length ≤ 1000) (F : Nat) (hF : 1001 ≤ F) : rsEv F l m a b x = sel (rOkB l m a b) (sNew l (a, b, x)) (sAls l (rErr l m a b)) := by
  rw [rs_tree, show (0 : Int) = ((0 : Nat) : Int) from rfl, LSt_run F l m a b x hl l.length 0 F (by omega) (by omega)]
  unfold rOkB rErr sEnd
  have h1 : Nat.ble (0 + l.length) 1000000000 = true := Nat.ble_eq_true_of_le (by omega)
  have h2 : Nat.ble (l.length + 1) 1000000000 = true := Nat.ble_eq_true_of_le (by omega)
  show sel _ _ (sel (clashB a b l) _ (sel _ _ (sel (Nat.ble (0 + l.length) 1000000000) (sel (Nat.ble (l.length + 1) 1000000000) _ _) _))) = _
  rw [h1, h2]
  cases rightB a b <;> cases clashB a b l <;> cases decide (m ≤ (l.length : Int)) <;> rfl
def len1000 (l : List HV) : Bool := Nat.ble l.length 1000
def cRSet : Con := fun args lo => match args with
  | [.all jw, .v (.int .i64 m), .agg [.v (.int .i64 a), .v (.int .i64 b), .v (.int .i64 x)]] => refR jw fun l => .br (len1000 l) (.br (rOkB l m a b)
      (.ret ⟨.tup [.all lo, vi 0], [(jw, .row 27 stH l), (lo, .row 27 stH (snoc l (a, b, x)))]⟩)
      (.ret ⟨.tup [.all jw, vi (rErr l m a b)], [(jw, .row 27 stH l)]⟩)) .fail
  | _ => .fail
theorem CRs_ok : ∀ B' g φ, CRs g = some φ → ConOk Try.prog B' g φ := by
  intro B' g φ h
  unfold CRs at h
  split at h
  · cases h; exact cRRight_ok B'
  · cases h
theorem cnRow_okT (p : Nat) (T : Nat → Option (List Nat × List (Nat × TypeId × List Sc))) (B' : Nat → Prop) (w0 : Base) (n : Nat) (hp : w0.pin ≤ p) : CnOk (cnRow p T) B' w0 n := cnRow_ok hp
theorem cRSet_ok (B) : ConOk Try.prog B 16 cRSet := by
  intro args ρ h w lo out ids hr hrh hfr hfa up
  unfold cRSet at hr
  split at hr
  · rename_i jw m a b x
    obtain ⟨l, ids2, hw, hr⟩ := refR_run hr
    obtain ⟨hb, hr⟩ := br_run (h := h) hr
    have hlen := Nat.le_of_ble_eq_true hb
    have hrun := rs_run l m a b x hlen 1001 (Nat.le_refl _)
    obtain ⟨mm, hmm⟩ : ∃ mm : Nat → Nat, mm = fun i => if i = 0 then jw else lo + wide := ⟨_, rfl⟩
    have m0 : mm 0 = jw := by rw [hmm]; rfl
    have look0 : ∀ i oc, look [((0 : Nat), AObj.row 27 stH l)] i = some oc → i = 0 ∧ oc = .row 27 stH l := by
      intro i oc hi
      simp only [look] at hi
      by_cases e0 : 0 = i
      · subst e0; cases hi; exact ⟨rfl, rfl⟩
      · rw [beq_no e0] at hi; cases hi
    have go : ∀ r hp', rsEv 1001 l m a b x = some (r, hp') → (∃ o', look hp' 0 = some o' ∧ (o'.own = true ∨ o' = .dead)) → CallGives Try.prog 16 (denL ρ (renL mm [.all 0, vi m, .agg [vi a, vi b, vi x]])).toArray w fun v w' => ∃ ρ', Made B ρ h w lo (lo + wide) ⟨ren (mr mm 1 lo) r, updGo (mr mm 1 lo) hp' hp'⟩ ρ' v w' := by
      intro r hp' he hown
      refine con_ownG (B := B) (cn := cnRow 1 TSt) (F := 1001) mixed Try.func16 (by kernel_rfl) rfl CRs_ok (p := 1) (fun B' w0 hp => cnRow_okT 1 TSt B' w0 _ hp) [.all 0, vi m, .agg [vi a, vi b, vi x]] mm [(0, .row 27 stH l)] r hp' (gc_GOk 1) he ρ h w lo hrh hfr up rfl ?_ ?_ ?_ ?_ ?_
      · intro i oc hi
        obtain ⟨rfl, rfl⟩ := look0 i oc hi
        exact ⟨by decide, rfl⟩
      · intro i hi
        obtain rfl : i = 0 := by omega
        rw [m0]; exact (hfr jw _ hw).1
      · intro i oc hi
        obtain ⟨rfl, rfl⟩ := look0 i oc hi
        rw [m0]; exact ⟨_, hw, .row _ _ _⟩
      · intro i j oc oc' hi hj hij _
        obtain ⟨rfl, rfl⟩ := look0 i oc hi
        obtain ⟨rfl, rfl⟩ := look0 j oc' hj
        exact absurd rfl hij
      · intro i oc hi _
        obtain ⟨rfl, rfl⟩ := look0 i oc hi
        exact hown
    have e1 : denL ρ (renL mm [.all 0, vi m, .agg [vi a, vi b, vi x]]) = denL ρ [.all jw, vi m, .agg [vi a, vi b, vi x]] := by simp only [renL, ren, m0]
    rw [e1] at go
    have q0 : mr mm 1 lo 0 = jw := m0
    have q1 : mr mm 1 lo 1 = lo := rfl
    rcases br_run2 (h := h) hr with ⟨hc, hr⟩ | ⟨hc, hr⟩
    · cases hr
      rw [hc, sel_t] at hrun
      have := go _ _ hrun ⟨_, rfl, .inl rfl⟩
      have e2 : ren (mr mm 1 lo) (.tup [.all 1, vi 0]) = .tup [.all lo, vi 0] := by simp only [ren, renL, q1]
      have e3 : updGo (mr mm 1 lo) [(0, .row 27 stH l), (1, .row 27 stH (snoc l (a, b, x)))] [(0, .row 27 stH l), (1, .row 27 stH (snoc l (a, b, x)))] = [(jw, .row 27 stH l), (lo, .row 27 stH (snoc l (a, b, x)))] := by
        show [(mr mm 1 lo 0, _), (mr mm 1 lo 1, _)] = _
        rw [q0, q1]; rfl
      rw [e2, e3] at this
      exact this
    · cases hr
      rw [hc, sel_f] at hrun
      have := go _ _ hrun ⟨_, rfl, .inl rfl⟩
      have e2 : ren (mr mm 1 lo) (.tup [.all 0, vi (rErr l m a b)]) = .tup [.all jw, vi (rErr l m a b)] := by simp only [ren, renL, q0]
      have e3 : updGo (mr mm 1 lo) [(0, .row 27 stH l)] [(0, .row 27 stH l)] = [(jw, .row 27 stH l)] := by
        show [(mr mm 1 lo 0, _)] = _
        rw [q0]; rfl
      rw [e2, e3] at this
      exact this
  · cases hr
end Go.Proofs.Ytbmapmigiokbcaa.Ax
namespace Go.Proofs.Ytbmapmigiokbcaa.Ax
open Go Go.RowKit Go.Shelf Go.Proofs.Ytbmapmigiokbcaa.Print Go.Proofs.YtbmapmigiokbcaaW.PrintWords
set_option linter.unusedVariables false
set_option linter.unusedSimpArgs false
noncomputable def CLn : FuncId → Option Con
  | 21 => some cNone
  | 19 => some cRight
  | 22 => some cFind
  | 6 => some cMeet
  | 23 => some cInsert
  | 24 => some cSClone
  | _ => none
theorem CLn_ok : ∀ B' g φ, CLn g = some φ → ConOk Try.prog B' g φ := by
  intro B' g φ h
  unfold CLn at h
  split at h <;> first | (cases h; done) | skip
  · cases h; exact cNone_ok B'
  · cases h; exact cRight_ok B'
  · cases h; exact cFind_ok B'
  · cases h; exact cMeet_ok B'
  · cases h; exact cInsert_ok B'
  · cases h; exact cSClone_ok B'
def hcL (m : Int) (l : List HV) : Hp := [(0, .cells 52 [.all 1, vi m]), (1, .row 55 stH l)]
noncomputable def lnEv (fn : Func) (rest : List SV) (m : Int) (l : List HV) : Option (SV × Hp) := evFn Try.prog CLn cn0 40 fn (.ptr 0 0 :: rest) (hcL m l) 2 (KG (gcSt [0] 2) 2)
theorem ln_call {f : FuncId} {fn : Func} {c0 : Code} (hf : Try.prog.funcs[f]? = some fn) (hname : (fn.name == "runtime.NumGoroutine") = false) (hbody : fn.body = some c0) {rest : List SV} (hrest : ltL 0 rest = true) {m : Int} {l : List HV} {r : SV} {hp' : Hp} (he : lnEv fn rest m l = some (r, hp'))
    (h0 : ∃ o', look hp' 0 = some o' ∧ (o'.own = true ∨ o' = .dead)) (h1 : ∃ o', look hp' 1 = some o' ∧ (o'.own = true ∨ o' = .dead)) (mm : Nat → Nat)
    (B : Nat → Prop) (ρ : Rho) (h : Hp) (w : World) (lo : Nat) (hrh : HR B ρ h w) (hfr : HFree lo (lo + wide) h) (up : ∀ b, w.heap.size ≤ b → B b) {id j : Nat} (ho : look h id = some (.cells 52 [.all j, vi m])) (hj : look h j = some (.row 55 stH l)) (m0 : mm 0 = id) (m1 : mm 1 = j) :
    CallGives Try.prog f (denL ρ (.ptr id 0 :: rest)).toArray w fun v w' => ∃ ρ', Made B ρ h w lo (lo + wide) ⟨ren (mr mm 2 lo) r, updGo (mr mm 2 lo) hp' hp'⟩ ρ' v w' := by
  have hne : id ≠ j := fun e => by subst e; rw [ho] at hj; cases hj
  have look01 : ∀ i oc, look (hcL m l) i = some oc → (i = 0 ∧ oc = .cells 52 [.all 1, vi m]) ∨ (i = 1 ∧ oc = .row 55 stH l) := by
    intro i oc hi
    unfold hcL at hi
    simp only [look] at hi
    by_cases e0 : 0 = i
    · subst e0; cases hi; exact .inl ⟨rfl, rfl⟩
    · rw [beq_no e0] at hi
      by_cases e1 : 1 = i
      · subst e1; cases hi; exact .inr ⟨rfl, rfl⟩
      · rw [beq_no e1] at hi; cases hi
  have := con_ownG (B := B) (cn := cn0) (F := 40) mixed hf hname hbody CLn_ok (p := 2) (fun B' w0 _ => cn0_ok B' w0 _) (.ptr 0 0 :: rest) mm (hcL m l) r hp' (gc_GOk 2) he ρ h w lo hrh hfr up
    (by simp only [ltL, SV.lt, Bool.and_eq_true]; exact ⟨rfl, ltL_mono (Nat.zero_le _) rest hrest⟩)
    (fun i oc hi => by rcases look01 i oc hi with ⟨rfl, rfl⟩ | ⟨rfl, rfl⟩ <;> exact ⟨by decide, rfl⟩)
    (fun i hi => by
      match i, hi with
      | 0, _ => rw [m0]; exact (hfr id _ ho).1
      | 1, _ => rw [m1]; exact (hfr j _ hj).1)
    (fun i oc hi => by
      rcases look01 i oc hi with ⟨rfl, rfl⟩ | ⟨rfl, rfl⟩
      · rw [m0]
        refine ⟨_, ho, ?_⟩
        have := View.own (m := mm) 52 [.all 1, vi m]
        simp only [renL, ren, m1] at this
        exact this
      · rw [m1]; exact ⟨_, hj, .row _ _ _⟩)
    (fun i i' oc oc' hi hi' hii _ => by
      rcases look01 i oc hi with ⟨rfl, rfl⟩ | ⟨rfl, rfl⟩ <;> rcases look01 i' oc' hi' with ⟨rfl, rfl⟩ | ⟨rfl, rfl⟩
      · exact absurd rfl hii
      · rw [m0, m1]; exact hne
      · rw [m0, m1]; exact fun e => hne e.symm
      · exact absurd rfl hii)
    (fun i oc hi hown => by
      rcases look01 i oc hi with ⟨rfl, rfl⟩ | ⟨rfl, rfl⟩
      · exact h0
      · exact h1)
  have e1 : denL ρ (renL mm (.ptr 0 0 :: rest)) = denL ρ (.ptr id 0 :: rest) := by
    simp only [renL, ren, m0, renL_lt0 mm rest hrest]
  rw [e1] at this
  exact this
def sLn (l : List HV) (m e : Int) : Option (SV × Hp) := some (vi e, hcL m l)
def sLnNew (l : List HV) (m : Int) (n : Nat) (y : HV) : Option (SV × Hp) := some (vi 0, [(0, .cells 52 [.all 2, vi m]), (1, .dead), (2, .row 55 stH (insL l n y))])
def setEnd (l : List HV) (m a b x : Int) : Option (SV × Hp) := sel (decide (m ≤ (l.length : Int))) (sLn l m 31) (sel (decide (0 ≤ (findV l a : Int)) && (decide ((findV l a : Int) ≤ (l.length : Int)) && Nat.ble (l.length + 1) 1000000000)) (sLnNew l m (findV l a) (a, b, x)) none)
theorem set_tree (l : List HV) (m a b x : Int) : lnEv Try.f11 [.agg [vi a, vi b], vi x] m l =
    sel (!decide (m = 0)) (sel (!rightB a b) (sLn l m 30) (sel (lenOK l) (sel (decide ((findV l a : Int) < (l.length : Int))) (idxP l (findV l a) (sel (meetV (rAt l (findV l a)).1 (rAt l (findV l a)).2.1 a b).2.2 (sLn l m 50) (setEnd l m a b x))) (setEnd l m a b x)) none)) none := by kernel_rfl
theorem clone_tree (l : List HV) (m : Int) : lnEv Try.f14 [] m l =
    sel (lenOK l) (some (.ptr 2 0, [(0, .cells 52 [.all 1, vi m]), (1, .row 55 stH l), (2, .cells 52 [.all 3, vi m]), (3, .row 55 stH l)])) none := by kernel_rfl
def hitB (l : List HV) (a b : Int) : Bool := match l[findV l a]? with
  | none => false
  | some h => (meetV h.1 h.2.1 a b).2.2
def sOkB (l : List HV) (m a b : Int) : Bool := rightB a b && (!hitB l a b && !decide (m ≤ (l.length : Int)))
def sErr (l : List HV) (m a b : Int) : Int := bif !rightB a b then 30 else bif hitB l a b then 50 else 31
theorem set_run (l : List HV) (m a b x : Int) (hm : m ≠ 0) (hl : l.length ≤ 1000) : lnEv Try.f11 [.agg [vi a, vi b], vi x] m l = sel (sOkB l m a b) (sLnNew l m (findV l a) (a, b, x)) (sLn l m (sErr l m a b)) := by
  have hle := findV_le l a
  have h1 : lenOK l = true := Nat.ble_eq_true_of_le (by omega)
  have h2 : (decide (0 ≤ (findV l a : Int)) && (decide ((findV l a : Int) ≤ (l.length : Int)) && Nat.ble (l.length + 1) 1000000000)) = true := by
    rw [decide_eq_true (by omega), decide_eq_true (by omega), Nat.ble_eq_true_of_le (by omega)]; rfl
  rw [set_tree, decide_eq_false hm, h1]
  unfold setEnd
  rw [h2]
  unfold sOkB sErr hitB
  by_cases hlt : findV l a < l.length
  · rw [decide_eq_true (by omega), idxP_at l _ hlt, rAt_at l _ hlt, List.getElem?_eq_getElem hlt]
    simp only [Bool.not_false, sel_t]
    cases rightB a b <;> cases (meetV l[findV l a].1 l[findV l a].2.1 a b).2.2 <;> cases decide (m ≤ (l.length : Int)) <;> rfl
  · rw [decide_eq_false (by omega), List.getElem?_eq_none (by omega)]
    simp only [Bool.not_false, sel_t, sel_f]
    cases rightB a b <;> cases decide (m ≤ (l.length : Int)) <;> rfl
def lnOwn (id : Nat) (k : Nat → Int → List HV → Rd Out) : Rd Out := .obj id fun o => match o with
  | .cells 52 [.all j, .v (.int .i64 most)] => .obj j fun o2 => match o2 with
    | .row 55 s l => .opt (castL s stH l) (k j most)
    | _ => .fail
  | _ => .fail
theorem lnOwn_run {id : Nat} {k : Nat → Int → List HV → Rd Out} {h : Hp} {out : Out} {ids : List Nat} (hr : (lnOwn id k).run h = some (out, ids)) :
    ∃ j most l ids', look h id = some (.cells 52 [.all j, .v (.int .i64 most)]) ∧ look h j = some (.row 55 stH l) ∧ (k j most l).run h = some (out, ids') := by
  unfold lnOwn at hr
  obtain ⟨o, ids1, ho, hr⟩ := obj_run hr
  split at hr
  · rename_i j most
    obtain ⟨o2, ids2, ho2, hr⟩ := obj_run hr
    split at hr
    · obtain ⟨l, hl, hr⟩ := opt_run hr
      obtain ⟨rfl, rfl⟩ := castL_eq hl
      exact ⟨j, most, _, _, ho, ho2, hr⟩
    · cases hr
  · cases hr
def cSet : Con := fun args lo => match args with
  | [.ptr id 0, .agg [.v (.int .i64 a), .v (.int .i64 b)], .v (.int .i64 x)] => lnOwn id fun j m l => .br (!decide (m = 0) && len1000 l) (.br (sOkB l m a b)
      (.ret ⟨vi 0, [(id, .cells 52 [.all lo, vi m]), (j, .dead), (lo, .row 55 stH (insL l (findV l a) (a, b, x)))]⟩)
      (.ret ⟨vi (sErr l m a b), [(id, .cells 52 [.all j, vi m]), (j, .row 55 stH l)]⟩)) .fail
  | _ => .fail
theorem cSet_ok (B) : ConOk Try.prog B 11 cSet := by
  intro args ρ h w lo out ids hr hrh hfr hfa up
  unfold cSet at hr
  split at hr
  · rename_i id a b x
    obtain ⟨j, m, l, ids2, ho, hj, hr⟩ := lnOwn_run hr
    obtain ⟨hb, hr⟩ := br_run (h := h) hr
    rw [Bool.and_eq_true] at hb
    have hrun := set_run l m a b x (by simpa using hb.1) (Nat.le_of_ble_eq_true hb.2)
    obtain ⟨mm, hmm⟩ : ∃ mm : Nat → Nat, mm = fun i => if i = 0 then id else if i = 1 then j else lo + wide := ⟨_, rfl⟩
    have m0 : mm 0 = id := by rw [hmm]; rfl
    have m1 : mm 1 = j := by rw [hmm]; rfl
    have q0 : mr mm 2 lo 0 = id := m0
    have q1 : mr mm 2 lo 1 = j := m1
    have q2 : mr mm 2 lo 2 = lo := rfl
    rcases br_run2 (h := h) hr with ⟨hc, hr⟩ | ⟨hc, hr⟩
    · cases hr
      rw [hc, sel_t] at hrun
      have := ln_call Try.func11 (by kernel_rfl) rfl rfl hrun ⟨_, rfl, .inl rfl⟩ ⟨_, rfl, .inr rfl⟩ mm B ρ h w lo hrh hfr up ho hj m0 m1
      have e2 : ren (mr mm 2 lo) (vi 0) = vi 0 := rfl
      have e3 : ∀ R, updGo (mr mm 2 lo) [(0, .cells 52 [.all 2, vi m]), (1, .dead), (2, .row 55 stH R)] [(0, .cells 52 [.all 2, vi m]), (1, .dead), (2, .row 55 stH R)] = [(id, .cells 52 [.all lo, vi m]), (j, .dead), (lo, .row 55 stH R)] := by
        intro R
        show [(mr mm 2 lo 0, AObj.cells 52 [.all (mr mm 2 lo 2), vi m]), (mr mm 2 lo 1, _), (mr mm 2 lo 2, _)] = _
        rw [q0, q1, q2]; rfl
      rw [e2, e3] at this
      exact this
    · cases hr
      rw [hc, sel_f] at hrun
      have := ln_call Try.func11 (by kernel_rfl) rfl rfl hrun ⟨_, rfl, .inl rfl⟩ ⟨_, rfl, .inl rfl⟩ mm B ρ h w lo hrh hfr up ho hj m0 m1
      have e2 : ren (mr mm 2 lo) (vi (sErr l m a b)) = vi (sErr l m a b) := rfl
      have e3 : updGo (mr mm 2 lo) (hcL m l) (hcL m l) = [(id, .cells 52 [.all j, vi m]), (j, .row 55 stH l)] := by
        show [(mr mm 2 lo 0, AObj.cells 52 [.all (mr mm 2 lo 1), vi m]), (mr mm 2 lo 1, _)] = _
        rw [q0, q1]; rfl
      rw [e2, e3] at this
      exact this
  · cases hr
def cClone : Con := fun args lo => match args with
  | [.ptr id 0] => lnOwn id fun j m l => .br (lenOK l)
      (.ret ⟨.ptr lo 0, [(id, .cells 52 [.all j, vi m]), (j, .row 55 stH l), (lo, .cells 52 [.all (lo + 1), vi m]), (lo + 1, .row 55 stH l)]⟩) .fail
  | _ => .fail
theorem cClone_ok (B) : ConOk Try.prog B 14 cClone := by
  intro args ρ h w lo out ids hr hrh hfr hfa up
  unfold cClone at hr
  split at hr
  · rename_i id
    obtain ⟨j, m, l, ids2, ho, hj, hr⟩ := lnOwn_run hr
    obtain ⟨hb, hr⟩ := br_run (h := h) hr
    cases hr
    have hrun := clone_tree l m
    rw [hb, sel_t] at hrun
    obtain ⟨mm, hmm⟩ : ∃ mm : Nat → Nat, mm = fun i => if i = 0 then id else if i = 1 then j else lo + wide := ⟨_, rfl⟩
    have m0 : mm 0 = id := by rw [hmm]; rfl
    have m1 : mm 1 = j := by rw [hmm]; rfl
    have q0 : mr mm 2 lo 0 = id := m0
    have q1 : mr mm 2 lo 1 = j := m1
    have q2 : mr mm 2 lo 2 = lo := rfl
    have q3 : mr mm 2 lo 3 = lo + 1 := rfl
    have := ln_call Try.func14 (by kernel_rfl) rfl rfl hrun ⟨_, rfl, .inl rfl⟩ ⟨_, rfl, .inl rfl⟩ mm B ρ h w lo hrh hfr up ho hj m0 m1
    have e2 : ren (mr mm 2 lo) (.ptr 2 0) = .ptr lo 0 := by simp only [ren, q2]
    have e3 : updGo (mr mm 2 lo) [(0, .cells 52 [.all 1, vi m]), (1, .row 55 stH l), (2, .cells 52 [.all 3, vi m]), (3, .row 55 stH l)] [(0, .cells 52 [.all 1, vi m]), (1, .row 55 stH l), (2, .cells 52 [.all 3, vi m]), (3, .row 55 stH l)]
        = [(id, .cells 52 [.all j, vi m]), (j, .row 55 stH l), (lo, .cells 52 [.all (lo + 1), vi m]), (lo + 1, .row 55 stH l)] := by
      show [(mr mm 2 lo 0, AObj.cells 52 [.all (mr mm 2 lo 1), vi m]), (mr mm 2 lo 1, _), (mr mm 2 lo 2, AObj.cells 52 [.all (mr mm 2 lo 3), vi m]), (mr mm 2 lo 3, _)] = _
      rw [q0, q1, q2, q3]; rfl
    rw [e2, e3] at this
    exact this
  · cases hr
end Go.Proofs.Ytbmapmigiokbcaa.Ax
namespace Go.Proofs.Ytbmapmigiokbcaa.Ax
open Go Go.RowKit Go.Shelf Go.Proofs.Ytbmapmigiokbcaa.Print Go.Proofs.YtbmapmigiokbcaaW.PrintWords
set_option linter.unusedVariables false
set_option linter.unusedSimpArgs false
noncomputable abbrev autoP (own : Bool) (C : FuncId → Option Con) (fn : Func) : Con := conAuto Try.prog C cn0 40 own fn
theorem autoP_ok {f : FuncId} {fn : Func} (own : Bool) {C : FuncId → Option Con} (hC : ∀ B' g φ, C g = some φ → ConOk Try.prog B' g φ) (hf : Try.prog.funcs[f]? = some fn) (hname : (fn.name == "runtime.NumGoroutine") = false) (hbody : fn.body.isSome = true) (B : Nat → Prop) : ConOk Try.prog B f (autoP own C fn) :=
  conAuto_ok mixed hf hname hbody hC (fun B' w0 => cn0_ok B' w0 _) own B
theorem toldP {f : FuncId} {fn : Func} {C : FuncId → Option Con} (hC : ∀ B' g φ, C g = some φ → ConOk Try.prog B' g φ) (hf : Try.prog.funcs[f]? = some fn) (hname : (fn.name == "runtime.NumGoroutine") = false) (hbody : fn.body.isSome = true) {lin lout : List Pc} (V : PT lin → Option (PT lout))
    (hV : ∀ x y, V x = some y → evX Try.prog C cn0 40 fn lin lout x = some y) (h1 : rowsP lout ≤ 1) (B : Nat → Prop) : ConOk Try.prog B f (conX lin lout V) :=
  conX_ok mixed hf hname hbody hC (fun B' w => cn0_ok B' w _) lin lout h1 (fun _ => 40) V hV B
def refMeetV (a b c d : Int) : Int × Int × Bool := bif !rightB a b then (0, 0, false) else bif !rightB c d then (0, 0, false) else bif decide (a > d) then (0, 0, false) else bif decide (c > b) then (0, 0, false) else (mx a c, mn b d, true)
theorem ref_meet (a b x c d y : Int) : octroiref13_Meet.f a b x c d y = some ((refMeetV a b c d).1, (refMeetV a b c d).2.1, 0, (refMeetV a b c d).2.2) := by
  unfold octroiref13_Meet.f refMeetV
  simp only [ref_right, Option.bind_some]
  cases rightB a b with
  | false => rfl
  | true =>
    cases rightB c d with
    | false => rfl
    | true =>
      simp only [if_true, Bool.not_true, cond_false]
      by_cases h1 : a > d
      · rw [if_pos h1, decide_eq_true h1]; rfl
      · rw [if_neg h1, decide_eq_false h1]
        by_cases h2 : c > b
        · rw [if_pos h2, decide_eq_true h2]; rfl
        · rw [if_neg h2, decide_eq_false h2]; rfl
def cRMeet : Con := fun args lo => match args with
  | [.agg [.v (.int .i64 a), .v (.int .i64 b), .v (.int .i64 x)], .agg [.v (.int .i64 c), .v (.int .i64 d), .v (.int .i64 y)]] => .ret ⟨.tup [.agg [vi (refMeetV a b c d).1, vi (refMeetV a b c d).2.1, vi 0], .v (.bool (refMeetV a b c d).2.2)], []⟩
  | _ => .fail
theorem cRMeet_ok (B) : ConOk Try.prog B 7 cRMeet := by
  intro args ρ h w lo out ids hr hrh hfr hfa up
  unfold cRMeet at hr
  split at hr
  · rename_i a b x c d y
    cases hr
    exact gives_same (s := .tup [.agg [vi (refMeetV a b c d).1, vi (refMeetV a b c d).2.1, vi 0], .v (.bool (refMeetV a b c d).2.2)]) (fn := Try.f7) Try.func7 (by kernel_rfl) (by kernel_rfl) hrh up (octroiref13_Meet.calls a b x c d y _ _ _ _ w (ref_meet a b x c d y))
  · cases hr
noncomputable def CT : FuncId → Option Con
  | 9 => some cNew
  | 11 => some cSet
  | 12 => some cAt
  | 13 => some cLen
  | 17 => some cGap
  | 14 => some cClone
  | 15 => some cLike
  | 6 => some cMeet
  | 7 => some cRMeet
  | 16 => some cRSet
  | 18 => some cRGap
  | _ => none
theorem CT_ok : ∀ B' g φ, CT g = some φ → ConOk Try.prog B' g φ := by
  intro B' g φ h
  unfold CT at h
  split at h <;> first | (cases h; done) | skip
  · cases h; exact cNew_ok B'
  · cases h; exact cSet_ok B'
  · cases h; exact cAt_ok B'
  · cases h; exact cLen_ok B'
  · cases h; exact cGap_ok B'
  · cases h; exact cClone_ok B'
  · cases h; exact cLike_ok B'
  · cases h; exact cMeet_ok B'
  · cases h; exact cRMeet_ok B'
  · cases h; exact cRSet_ok B'
  · cases h; exact cRGap_ok B'
abbrev qBool : Pc := .one .bool
abbrev qInt : Pc := .one (.int .i64)
theorem lives_tree : evX Try.prog CT cn0 40 Try.f8 [] [qBool] () = some (true, ()) := by kernel_rfl
noncomputable def cLives : Con := conX [] [qBool] fun _ => some (true, ())
theorem cLives_ok (B) : ConOk Try.prog B 8 cLives :=
  toldP (lin := []) (lout := [qBool]) CT_ok Try.func8 (by kernel_rfl) (by kernel_rfl) (fun _ => some (true, ())) (fun x y h => lives_tree.trans h) (by decide) B
noncomputable def CV : FuncId → Option Con
  | 8 => some cLives
  | g => CT g
theorem CV_ok : ∀ B' g φ, CV g = some φ → ConOk Try.prog B' g φ := by
  intro B' g φ h
  unfold CV at h
  split at h
  · cases h; exact cLives_ok B'
  · exact CT_ok B' _ φ h
end Go.Proofs.Ytbmapmigiokbcaa.Ax
namespace Go.Proofs.Ytbmapmigiokbcaa.Ax
open Go Go.RowKit Go.Shelf Go.Proofs.Ytbmapmigiokbcaa.Print Go.Proofs.YtbmapmigiokbcaaW.PrintWords
set_option linter.unusedVariables false
set_option linter.unusedSimpArgs false
abbrev Mx := Go.Proofs.YtbmapmigiokbcaaW.PrintWords.mx
abbrev Mn := Go.Proofs.YtbmapmigiokbcaaW.PrintWords.mn
abbrev OB := Option (Bool × Unit)
theorem mx_comm (a b : Int) : Mx a b = Mx b a := by unfold Mx Go.Proofs.YtbmapmigiokbcaaW.PrintWords.mx; split <;> split <;> omega
theorem mn_comm (a b : Int) : Mn a b = Mn b a := by unfold Mn Go.Proofs.YtbmapmigiokbcaaW.PrintWords.mn; split <;> split <;> omega
theorem right_iff (a b : Int) : rightB a b = true ↔ 0 ≤ a ∧ b ≤ 2932896 ∧ a ≤ b := by simp [rightB]
theorem meet_iff (a b c d : Int) : (rightB a b && (rightB c d && rightB (Mx a c) (Mn b d))) = (rightB a b && (rightB c d && (decide (c ≤ b) && decide (a ≤ d)))) := by
  cases h1 : rightB a b with
  | false => rfl
  | true =>
    cases h2 : rightB c d with
    | false => rfl
    | true =>
      rw [right_iff] at h1 h2
      have key : rightB (Mx a c) (Mn b d) = true ↔ c ≤ b ∧ a ≤ d := by
        rw [right_iff]
        unfold Mx Mn Go.Proofs.YtbmapmigiokbcaaW.PrintWords.mx Go.Proofs.YtbmapmigiokbcaaW.PrintWords.mn
        split <;> split <;> omega
      simp only [Bool.true_and]
      rw [Bool.eq_iff_iff, key]
      simp
theorem meetV_eq (a b c d : Int) : meetV a b c d = bif rightB a b && (rightB c d && (decide (c ≤ b) && decide (a ≤ d))) then (Mx a c, Mn b d, true) else (0, 0, false) := by
  unfold meetV; rw [meet_iff]
theorem meet_comm (a b c d : Int) : meetV a b c d = meetV c d a b := by
  rw [meetV_eq, meetV_eq, mx_comm a c, mn_comm b d]
  cases rightB a b <;> cases rightB c d <;> cases decide (c ≤ b) <;> cases decide (a ≤ d) <;> rfl
end Go.Proofs.Ytbmapmigiokbcaa.Ax
namespace Go.Proofs.Ytbmapmigiokbcaa.Print
open Go Go.RowKit Go.Proofs.YtbmapmigiokbcaaW.PrintWords Go.Proofs.Ytbmapmigiokbcaa.Ax
set_option linter.unusedVariables false
theorem no_names {lin : List Pc} {x : PT lin} {ρ : Rho} {w : World} (h : hcA lin x 0 = []) : InOk w 0 (cntP lin 0) (hcA lin x 0) ρ := by
  intro j o hj
  rw [h] at hj; cases hj
end Go.Proofs.Ytbmapmigiokbcaa.Print
namespace Go.Proofs.Ytbmapmigiokbcaa.Ax
open Go Go.RowKit Go.Shelf Go.Proofs.Ytbmapmigiokbcaa.Print Go.Proofs.YtbmapmigiokbcaaW.PrintWords
set_option linter.unusedVariables false
set_option linter.unusedSimpArgs false
abbrev qSp3 : Pc := .agg [.int .i64, .int .i64, .int .i64]
noncomputable def CO : FuncId → Option Con
  | 10 => some (autoP true CT Try.f10)
  | g => CV g
theorem CO_ok : ∀ B' g φ, CO g = some φ → ConOk Try.prog B' g φ := by
  intro B' g φ h
  unfold CO at h
  split at h
  · cases h; exact autoP_ok true CT_ok Try.func10 (by kernel_rfl) (by kernel_rfl) B'
  · exact CV_ok B' _ φ h
def insA (l : List HV) (s : HV) : List HV := insL l (findV l s.1) s
def oT : OB := some (true, ())
def oF : OB := some (false, ())
def finO (e f g h : Int) (Ll Lm : List HV) (day : Int) : OB := sel (e == 30) oT (sel (g == 30) oT (sel (e != 0) oF (sel (g != 0) oF (sel (f != h) oF (sel (f != 0) (sel (f == 50) oT oF)
  (sel (!decide ((2 : Int) = 0) && lenOK Ll) (sel (!decide ((2 : Int) = 0) && lenOK Lm) (sel ((atV Ll day).1 == (atV Lm day).1) (sel ((atV Ll day).2 == (atV Lm day).2) (sel (!decide ((2 : Int) = 0)) (sel ((Ll.length : Int) == 2) oT oF) none) oF) oF) none) none))))))
def setO (l : List HV) (s : HV) (k : Int → List HV → OB) : OB := sel (sOkB l 2 s.1 s.2.1) (k 0 (insA l s)) (k (sErr l 2 s.1 s.2.1) l)
def orderT (a b : HV) (day : Int) : OB := setO [] a fun e L1 => setO L1 b fun f L2 => setO [] b fun g M1 => setO M1 a fun h M2 => finO e f g h L2 M2 day
theorem order_tree (a0 a1 ax b0 b1 bx day : Int) : evX Try.prog CO cn0 40 Try.f4 [qSp3, qSp3, qInt] [qBool] ((a0, a1, ax), (b0, b1, bx), day, ()) = orderT (a0, a1, ax) (b0, b1, bx) day := by kernel_rfl
end Go.Proofs.Ytbmapmigiokbcaa.Ax
namespace Go.Proofs.Ytbmapmigiokbcaa.Ax
open Go Go.RowKit Go.Shelf Go.Proofs.Ytbmapmigiokbcaa.Print Go.Proofs.YtbmapmigiokbcaaW.PrintWords
set_option linter.unusedVariables false
set_option linter.unusedSimpArgs false
theorem findV_nil (d : Int) : findV [] d = 0 := rfl
theorem findV_one (a : HV) (d : Int) : findV [a] d = bif decide (a.2.1 < d) then 1 else 0 := by
  show (bif Nat.blt 0 1 then (bif decide ((([a] : List HV)[(0 + 1) / 2]?.getD (0, 0, 0)).2.1 < d) then bsF 0 [a] d ((0 + 1) / 2 + 1) 1 else bsF 0 [a] d 0 ((0 + 1) / 2)) else 0) = _
  show (bif decide (a.2.1 < d) then (0 + 1) / 2 + 1 else 0) = _
  rfl
theorem hit_nil (a b : Int) : hitB [] a b = false := rfl
theorem meet_not {a b c d : Int} (h : b < c) : (meetV a b c d).2.2 = false := by
  rw [meetV_eq, decide_eq_false (show ¬ c ≤ b by omega)]
  cases rightB a b <;> cases rightB c d <;> rfl
theorem hit_one (a : HV) (c d : Int) : hitB [a] c d = (meetV a.1 a.2.1 c d).2.2 := by
  unfold hitB
  rw [findV_one]
  by_cases h : a.2.1 < c
  · rw [decide_eq_true h, meet_not h]; rfl
  · rw [decide_eq_false h]; rfl
theorem meet_yes {a b c d : Int} (h1 : rightB a b = true) (h2 : rightB c d = true) (h3 : (meetV a b c d).2.2 = false) : b < c ∨ d < a := by
  rw [meetV_eq, h1, h2] at h3
  by_cases h : c ≤ b
  · by_cases h' : a ≤ d
    · rw [decide_eq_true h, decide_eq_true h'] at h3; cases h3
    · exact .inr (by omega)
  · exact .inl (by omega)
theorem setO_nil (s : HV) (k : Int → List HV → OB) : setO [] s k = sel (rightB s.1 s.2.1) (k 0 [s]) (k 30 []) := by
  unfold setO sOkB sErr insA
  rw [findV_nil, hit_nil]
  cases rightB s.1 s.2.1 <;> rfl
theorem setO_one (a s : HV) (k : Int → List HV → OB) (hs : rightB s.1 s.2.1 = true) : setO [a] s k = sel (!(meetV a.1 a.2.1 s.1 s.2.1).2.2) (k 0 (insA [a] s)) (k 50 [a]) := by
  unfold setO sOkB sErr
  rw [hit_one, hs]
  cases (meetV a.1 a.2.1 s.1 s.2.1).2.2 <;> rfl
theorem insA_one (a s : HV) : insA [a] s = bif decide (a.2.1 < s.1) then [a, s] else [s, a] := by
  unfold insA
  rw [findV_one]
  cases decide (a.2.1 < s.1) <;> rfl
theorem order_law (a b : HV) (day : Int) : orderT a b day = some (true, ()) := by
  obtain ⟨a0, a1, ax⟩ := a
  obtain ⟨b0, b1, bx⟩ := b
  unfold orderT
  rw [setO_nil]
  cases hA : rightB a0 a1 with
  | false =>
    rw [sel_f]
    have fin30 : ∀ f g h Ll Lm, finO 30 f g h Ll Lm day = some (true, ()) := fun f g h Ll Lm => rfl
    simp only [fin30]
    unfold setO
    cases sOkB [] 2 b0 b1 <;> cases sOkB [] 2 a0 a1 <;> simp only [sel] <;> simp
  | true =>
    rw [sel_t]
    cases hB : rightB b0 b1 with
    | false =>
      have fing : ∀ f h Ll Lm, finO 0 f 30 h Ll Lm day = some (true, ()) := fun f h Ll Lm => rfl
      simp only [setO_nil, hB, sel]
      unfold setO
      simp only [fing, sel, cond_false]
      cases sOkB [(a0, a1, ax)] 2 b0 b1 <;> cases sOkB [] 2 a0 a1 <;> cases rightB a0 a1 <;> rfl
    | true =>
      rw [setO_one _ _ _ hB]
      simp only [setO_nil, hB]
      simp only [sel_t]
      rw [setO_one _ _ _ hA, setO_one _ _ _ hA]
      simp only [meet_comm b0 b1 a0 a1]
      cases hM : (meetV a0 a1 b0 b1).2.2 with
      | true => rfl
      | false =>
        have hor := meet_yes hA hB hM
        rw [right_iff] at hA hB
        have hL : insA [(a0, a1, ax)] (b0, b1, bx) = insA [(b0, b1, bx)] (a0, a1, ax) := by
          rw [insA_one, insA_one]
          rcases hor with h | h
          · rw [decide_eq_true (show a1 < b0 from h), decide_eq_false (show ¬ b1 < a0 by omega)]; rfl
          · rw [decide_eq_false (show ¬ a1 < b0 by omega), decide_eq_true (show b1 < a0 from h)]; rfl
        show finO 0 0 0 0 (insA [(a0, a1, ax)] (b0, b1, bx)) (insA [(b0, b1, bx)] (a0, a1, ax)) day = _
        rw [← hL]
        have hlen : (insA [(a0, a1, ax)] (b0, b1, bx)).length = 2 := by rw [insA_one]; cases decide (a1 < b0) <;> rfl
        have hlo : lenOK (insA [(a0, a1, ax)] (b0, b1, bx)) = true := by unfold lenOK; rw [hlen]; rfl
        unfold finO
        rw [hlo, hlen]
        simp [sel, oT]
theorem order_ev (a0 a1 ax b0 b1 bx day : Int) : evX Try.prog CO cn0 40 Try.f4 [qSp3, qSp3, qInt] [qBool] ((a0, a1, ax), (b0, b1, bx), day, ()) = some (true, ()) :=
  (order_tree a0 a1 ax b0 b1 bx day).trans (order_law _ _ _)
end Go.Proofs.Ytbmapmigiokbcaa.Ax
namespace Go.Proofs.Ytbmapmigiokbcaa.Print
open Go Go.RowKit Go.Proofs.YtbmapmigiokbcaaW.PrintWords Go.Proofs.Ytbmapmigiokbcaa.Ax
set_option linter.unusedVariables false
def octroilaw13_TimelineOrder.f (a b x c d y day : Int) : Option Bool := some true
theorem octroilaw13_TimelineOrder.calls (a b x c d y day : Int) (r : Bool) (w : World) (h : octroilaw13_TimelineOrder.f a b x c d y day = some r) :
    Calls Try.prog 4 #[.agg #[.int .i64 a, .int .i64 b, .int .i64 x], .agg #[.int .i64 c, .int .i64 d, .int .i64 y], .int .i64 day] w fun e w' => e = .returned (.bool r) ∧ Below w.heap.size w w' := by
  obtain rfl : true = r := Option.some.inj h
  exact calls_of_X mixed Try.func4 CO_ok (fun B' w => cn0_ok B' w _) (order_ev a b x c d y day) (fun _ => ⟨0, 0, 0, 0, true, none⟩) w (no_names rfl)
end Go.Proofs.Ytbmapmigiokbcaa.Print
namespace Go.Proofs.Ytbmapmigiokbcaa.Print
open Go.RowKit Go.Proofs.YtbmapmigiokbcaaW.PrintWords Go.Proofs.YtbmapmigiokbcaaW.PrintLast
def octroilaw13_TimelineOrder.Pure : Prop := ∀ (a0_0 : Int) (a0_1 : Int) (a0_2 : Int) (a1_0 : Int) (a1_1 : Int) (a1_2 : Int) (a2 : Int), (Lit.int .i64 a0_0).wf = true → (Lit.int .i64 a0_1).wf = true → (Lit.int .i64 a0_2).wf = true → (Lit.int .i64 a1_0).wf = true → (Lit.int .i64 a1_1).wf = true → (Lit.int .i64 a1_2).wf = true → (Lit.int .i64 a2).wf = true → octroilaw13_TimelineOrder.f a0_0 a0_1 a0_2 a1_0 a1_1 a1_2 a2 = some true
end Go.Proofs.Ytbmapmigiokbcaa.Print
namespace Go.Proofs.Ytbmapmigiokbcaa.Pure
open Go.RowKit Go.Proofs.Ytbmapmigiokbcaa.Print
theorem TimelineOrder : octroilaw13_TimelineOrder.Pure := by
  unfold octroilaw13_TimelineOrder.Pure
  intros; rfl
end Go.Proofs.Ytbmapmigiokbcaa.Pure
namespace Go.Proofs.Ytbmapmigiokbcaa.Ax
open Go Go.RowKit
set_option linter.unusedVariables false
set_option linter.unusedSimpArgs false
def takeRow (ty : TypeId) (s : List Sc) (v : SV) (h : Hp) : Option (List (TT s) × Hp) := match v with
  | .v (.slice none 0 0) => some ([], h)
  | .all k => match look h k with
    | some (.row ty' s' l) => cond (Nat.beq ty ty') (match castL s' s l with
      | none => none
      | some l' => some (l', put h k .dead)) none
    | _ => none
  | .slc k n 0 m (some c) => cond (Nat.beq n s.length && Nat.beq m c) (match look h k with
    | some (.cells ty' cs) => cond (Nat.beq ty ty') (match decRows s n m cs with
      | none => none
      | some l' => some (l', put h k .dead)) none
    | _ => none) none
  | _ => none
def rowCell (id j : Nat) (ty : TypeId) (s : List Sc) (σ : St) : Option St := match look σ.hp id with
  | some (.cells t c) => match c[j]? with
    | some v => match takeRow ty s v σ.hp with
      | some (l, h') => match look h' id with
        | some (.cells t' c') => match Nat.beq t t' && Nat.blt id σ.nx with
          | true => some ⟨σ.sl, put (put h' σ.nx (.row ty s l)) id (.cells t (c.set j (.all σ.nx))), σ.nx + 1⟩
          | false => none
        | _ => none
      | none => none
    | none => none
  | _ => none
def rowRes (j : Nat) (ty : TypeId) (s : List Sc) (σ : St) : Option St := match look σ.sl 0 with
  | some (.tup c) => match c[j]? with
    | some v => match takeRow ty s v σ.hp with
      | some (l, h') => some ⟨put σ.sl 0 (.tup (c.set j (.all σ.nx))), put h' σ.nx (.row ty s l), σ.nx + 1⟩
      | none => none
    | none => none
  | some v => match takeRow ty s v σ.hp with
    | some (l, h') => some ⟨put σ.sl 0 (.all σ.nx), put h' σ.nx (.row ty s l), σ.nx + 1⟩
    | none => none
  | none => none
def dropNm (id : Nat) (σ : St) : Option St := match look σ.hp id with
  | some _ => some ⟨σ.sl, put σ.hp id .dead, σ.nx⟩
  | none => none
inductive Rw where
  | drop (id : Nat)
  | cell (id j : Nat) (ty : TypeId) (s : List Sc)
  | res (j : Nat) (ty : TypeId) (s : List Sc)
def rows : List Rw → St → Option St
  | [], σ => some σ
  | .drop id :: l, σ => match dropNm id σ with
    | none => none
    | some σ' => rows l σ'
  | .cell id j ty s :: l, σ => match rowCell id j ty s σ with
    | none => none
    | some σ' => rows l σ'
  | .res j ty s :: l, σ => match rowRes j ty s σ with
    | none => none
    | some σ' => rows l σ'
section
variable {P : Program} {C : FuncId → Option Con} {cn : Nat → St → Option St}
end
end Go.Proofs.Ytbmapmigiokbcaa.Ax
