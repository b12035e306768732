/- AX 23: callees that write to what they are handed, as plain functions of what stands there (conV); rows that are laid under names of their own at a callee's end. -/
import Derived.Test.YtbmapmigiokbcaaTlInsB
import Derived.Test.YtbmapmigiokbcaaLawX
import Derived.Test.YtbmapmigiokbcaaAx21
import Derived.Test.YtbmapmigiokbcaaRngA
import Derived.Test.YtbmapmigiokbcaaAx22
namespace Go.Proofs.Ytbmapmigiokbcaa.Ax
open Go Go.RowKit Go.Shelf Go.Proofs.Ytbmapmigiokbcaa.Print Go.Proofs.YtbmapmigiokbcaaW.PrintWords
set_option linter.unusedVariables false
set_option linter.unusedSimpArgs false
def lnR (id : Nat) (k : Nat → Int → List HV → Rd Out) : Rd Out := .obj id fun o => match o with
  | .cells 52 [.all j, .v (.int .i64 most)] => .obj j fun o2 => match o2 with
    | .row 55 s l => .opt (castL s stH l) (k j most)
    | _ => .fail
  | .ro 52 [.all j, .v (.int .i64 most)] => .obj j fun o2 => match o2 with
    | .row 55 s l => .opt (castL s stH l) (k j most)
    | _ => .fail
  | _ => .fail
theorem lnR_run {id : Nat} {k : Nat → Int → List HV → Rd Out} {h : Hp} {out : Out} {ids : List Nat} (hr : (lnR id k).run h = some (out, ids)) :
    ∃ j most l ids' o, look h id = some o ∧ (o = .cells 52 [.all j, .v (.int .i64 most)] ∨ o = .ro 52 [.all j, .v (.int .i64 most)]) ∧ look h j = some (.row 55 stH l) ∧ (k j most l).run h = some (out, ids') := by
  unfold lnR at hr
  obtain ⟨o, ids1, ho, hr⟩ := obj_run hr
  split at hr
  · rename_i j most
    obtain ⟨o2, ids2, ho2, hr⟩ := obj_run hr
    split at hr
    · obtain ⟨l, hl, hr⟩ := opt_run hr
      obtain ⟨rfl, rfl⟩ := castL_eq hl
      exact ⟨j, most, _, _, _, ho, .inl rfl, ho2, hr⟩
    · cases hr
  · rename_i j most
    obtain ⟨o2, ids2, ho2, hr⟩ := obj_run hr
    split at hr
    · obtain ⟨l, hl, hr⟩ := opt_run hr
      obtain ⟨rfl, rfl⟩ := castL_eq hl
      exact ⟨j, most, _, _, _, ho, .inr rfl, ho2, hr⟩
    · cases hr
  · cases hr
theorem flat_at3 (l : List (TT stH)) (j k : Nat) (hk : k < 3) : (flat stH l)[j * 3 + k]? = (l[j]?).bind fun x => (enc stH x)[k]? := by
  induction l generalizing j with
  | nil => rfl
  | cons y l ih =>
    have e : flat stH (y :: l) = enc stH y ++ flat stH l := by unfold flat; rw [List.map_cons, List.flatten_cons]
    have hy : (enc stH y).length = 3 := enc_length stH y
    rw [e]
    cases j with
    | zero =>
      rw [List.getElem?_append_left (by omega)]
      simp
    | succ j =>
      rw [List.getElem?_append_right (by omega), hy, show (j + 1) * 3 + k - 3 = j * 3 + k from by omega, ih j]
      simp
theorem row_cells {ty : TypeId} {ρ : Rho} {w : World} {L : Loc} {l : List HV} (h : OK ρ w L (.row ty stH l)) (hn : L.nil = false) (j : Nat) (hj : j < l.length) :
    w.cell? ⟨L.blk, j * 3, none⟩ = some (.int .i64 (l[j]?.getD (0, 0, 0)).1) ∧ w.cell? ⟨L.blk, j * 3 + 1, none⟩ = some (.int .i64 (l[j]?.getD (0, 0, 0)).2.1) ∧ w.cell? ⟨L.blk, j * 3 + 2, none⟩ = some (.int .i64 (l[j]?.getD (0, 0, 0)).2.2) := by
  obtain ⟨h0, ⟨h1, _⟩ | ⟨h1, h2, h3, arr, h4, h5, h6⟩⟩ := h
  · rw [hn] at h1; cases h1
  · have h6 : arr.toList.take (l.length * 3) = flat stH l := h6
    obtain ⟨x, y, z, hx⟩ : ∃ x y z, l[j]? = some (x, y, z) := ⟨_, _, _, List.getElem?_eq_getElem hj⟩
    rw [hx]
    have key : ∀ k u, k < 3 → (enc stH (x, y, z))[k]? = some u → w.cell? ⟨L.blk, j * 3 + k, none⟩ = some u := by
      intro k u hk hu
      have h7 : (flat stH l)[j * 3 + k]? = some u := (flat_at3 l j k hk).trans (by have hx' : (show List (TT stH) from l)[j]? = some (x, y, z) := hx; rw [hx']; exact hu)
      rw [← h6, List.getElem?_take_of_lt (by omega)] at h7
      rw [blk_cell' h4, ← Array.getElem?_toList, h7]
    exact ⟨key 0 _ (by omega) rfl, key 1 _ (by omega) rfl, key 2 _ (by omega) rfl⟩
theorem rowAt_OK {ρ : Rho} {w : World} {L : Loc} {l : List HV} (h : OK ρ w L (.row 55 stH l)) : RowAt w.heap.size w (rowVal L) l := by
  have h' := h
  obtain ⟨h0, ⟨h1, h2, h3, h4⟩ | ⟨h1, h2, h3, arr, h4, h5, h6⟩⟩ := h
  · refine .inl ⟨by unfold rowVal; rw [h1, h3, h4]; rfl, h2⟩
  · refine .inr ⟨L.blk, L.cap, ?_, (Array.getElem?_eq_some_iff.1 h4).1, fun j hj => row_cells h' h1 j hj⟩
    unfold rowVal
    rw [h1, h2, h0]
    rfl
structure LnAt (ρ : Rho) (w : World) (id j : Nat) (most : Int) (l : List HV) : Prop where
  ptr : den ρ (.ptr id 0) = .pointer (some ⟨(ρ id).blk, 0, none⟩)
  lt : (ρ id).blk < w.heap.size
  c0 : w.cell? ⟨(ρ id).blk, 0, none⟩ = some (rowVal (ρ j))
  c1 : w.cell? ⟨(ρ id).blk, 1, none⟩ = some (.int .i64 most)
  row : RowAt w.heap.size w (rowVal (ρ j)) l
theorem lnAt_of {B : Nat → Prop} {ρ : Rho} {h : Hp} {w : World} (hr : HR B ρ h w) {id j : Nat} {most : Int} {l : List HV} {o : AObj} (ho : look h id = some o)
    (ho' : o = .cells 52 [.all j, .v (.int .i64 most)] ∨ o = .ro 52 [.all j, .v (.int .i64 most)]) (hj : look h j = some (.row 55 stH l)) : LnAt ρ w id j most l := by
  have hk : (ρ id).nil = false ∧ (ρ id).off = 0 ∧ w.heap[(ρ id).blk]? = some (.cells (denL ρ [.all j, .v (.int .i64 most)]).toArray 52 (0, 0)) := by
    have := hr.ok _ _ ho
    rcases ho' with rfl | rfl <;> exact this
  obtain ⟨k1, k2, k3⟩ := hk
  refine ⟨by simp only [den, k2, Nat.add_zero], (Array.getElem?_eq_some_iff.1 k3).1, by rw [blk_cell' k3]; rfl, by rw [blk_cell' k3]; rfl, rowAt_OK (hr.ok _ _ hj)⟩
def lenOK (l : List HV) : Bool := Nat.ble l.length 1000000000
theorem lenOK_le {l : List HV} (h : lenOK l = true) : l.length ≤ 1000000000 := Nat.le_of_ble_eq_true h
def cNone : Con := fun args lo => match args with
  | [.ptr id 0] => lnR id fun j most l => .br (!decide (most = 0)) (.ret ⟨.v (.bool false), []⟩) .fail
  | _ => .fail
theorem cNone_ok (B) : ConOk Try.prog B 21 cNone := by
  intro args ρ h w lo out ids hr hrh hfr hfa up
  unfold cNone at hr
  split at hr
  · rename_i id
    obtain ⟨j, most, l, ids', o, ho, ho', hj, hr⟩ := lnR_run hr
    obtain ⟨hb, hr⟩ := br_run (h := h) hr
    cases hr
    have La := lnAt_of hrh ho ho' hj
    refine gives_same (s := .v (.bool false)) (fn := Try.f21) Try.func21 (by kernel_rfl) (by kernel_rfl) hrh up ?_
    simp only [denL, La.ptr]
    exact (none_line _ most w (by simpa using hb) La.c1).mono fun e w' ⟨h1, h2⟩ => ⟨h1, by rw [h2]; exact Below.refl _ _⟩
  · cases hr
def cRight : Con := fun args lo => match args with
  | [.agg [.v (.int .i64 a), .v (.int .i64 b)]] => .ret ⟨.v (.bool (rightB a b)), []⟩
  | _ => .fail
theorem cRight_ok (B) : ConOk Try.prog B 19 cRight := by
  intro args ρ h w lo out ids hr hrh hfr hfa up
  unfold cRight at hr
  split at hr
  · rename_i a b
    cases hr
    exact gives_same (s := .v (.bool (rightB a b))) (fn := Try.f19) Try.func19 (by kernel_rfl) (by kernel_rfl) hrh up (timeline_Span_right.calls a b _ w (pro_right a b))
  · cases hr
theorem ref_right (a b : Int) : octroiref13_Right.f a b = some (rightB a b) := by
  unfold octroiref13_Right.f rightB
  by_cases h1 : a ≥ 0
  · by_cases h2 : b ≤ 2932896
    · rw [if_pos h1, if_pos h2, decide_eq_true (show 0 ≤ a from h1), decide_eq_true h2]; rfl
    · rw [if_pos h1, if_neg h2, decide_eq_true (show 0 ≤ a from h1), decide_eq_false h2]; rfl
  · rw [if_neg h1, decide_eq_false (show ¬ 0 ≤ a from h1)]; rfl
def cRRight : Con := fun args lo => match args with
  | [.v (.int .i64 a), .v (.int .i64 b)] => .ret ⟨.v (.bool (rightB a b)), []⟩
  | _ => .fail
theorem cRRight_ok (B) : ConOk Try.prog B 20 cRRight := by
  intro args ρ h w lo out ids hr hrh hfr hfa up
  unfold cRRight at hr
  split at hr
  · rename_i a b
    cases hr
    exact gives_same (s := .v (.bool (rightB a b))) (fn := Try.f20) Try.func20 (by kernel_rfl) (by kernel_rfl) hrh up (((octroiref13_Right.calls a b _ w (ref_right a b))).mono fun e w' h => ⟨h.1, by first | exact h.2 | exact h.2.below⟩)
  · cases hr
def cMeet : Con := fun args lo => match args with
  | [.agg [.v (.int .i64 a), .v (.int .i64 b)], .agg [.v (.int .i64 c), .v (.int .i64 d)]] => .ret ⟨.tup [.agg [.v (.int .i64 (meetV a b c d).1), .v (.int .i64 (meetV a b c d).2.1)], .v (.bool (meetV a b c d).2.2)], []⟩
  | _ => .fail
theorem cMeet_ok (B) : ConOk Try.prog B 6 cMeet := by
  intro args ρ h w lo out ids hr hrh hfr hfa up
  unfold cMeet at hr
  split at hr
  · rename_i a b c d
    cases hr
    exact gives_same (s := .tup [.agg [.v (.int .i64 (meetV a b c d).1), .v (.int .i64 (meetV a b c d).2.1)], .v (.bool (meetV a b c d).2.2)]) (fn := Try.f6) Try.func6 (by kernel_rfl) (by kernel_rfl) hrh up (timeline_Meet.calls 1 a b c d _ _ _ w (pro_meet a b c d))
  · cases hr
def cFind : Con := fun args lo => match args with
  | [.ptr id 0, .v (.int .i64 d)] => lnR id fun j most l => .br (lenOK l) (.ret ⟨.v (.int .i64 (findV l d)), []⟩) .fail
  | _ => .fail
theorem cFind_ok (B) : ConOk Try.prog B 22 cFind := by
  intro args ρ h w lo out ids hr hrh hfr hfa up
  unfold cFind at hr
  split at hr
  · rename_i id d
    obtain ⟨j, most, l, ids', o, ho, ho', hj, hr⟩ := lnR_run hr
    obtain ⟨hb, hr⟩ := br_run (h := h) hr
    cases hr
    have La := lnAt_of hrh ho ho' hj
    refine gives_same (s := .v (.int .i64 (findV l d))) (fn := Try.f22) Try.func22 (by kernel_rfl) (by kernel_rfl) hrh up ?_
    simp only [denL, La.ptr]
    exact find_line _ _ l d (lenOK_le hb) w La.c0 La.row
  · cases hr
def cAt : Con := fun args lo => match args with
  | [.ptr id 0, .v (.int .i64 d)] => lnR id fun j most l => .br (!decide (most = 0) && lenOK l) (.ret ⟨.tup [.v (.int .i64 (atV l d).1), .v (.bool (atV l d).2)], []⟩) .fail
  | _ => .fail
theorem cAt_ok (B) : ConOk Try.prog B 12 cAt := by
  intro args ρ h w lo out ids hr hrh hfr hfa up
  unfold cAt at hr
  split at hr
  · rename_i id d
    obtain ⟨j, most, l, ids', o, ho, ho', hj, hr⟩ := lnR_run hr
    obtain ⟨hb, hr⟩ := br_run (h := h) hr
    cases hr
    rw [Bool.and_eq_true] at hb
    have La := lnAt_of hrh ho ho' hj
    refine gives_same (s := .tup [.v (.int .i64 (atV l d).1), .v (.bool (atV l d).2)]) (fn := Try.f12) Try.func12 (by kernel_rfl) (by kernel_rfl) hrh up ?_
    simp only [denL, La.ptr]
    exact at_line _ _ most (by simpa using hb.1) l d (lenOK_le hb.2) w La.lt La.c0 La.c1 La.row
  · cases hr
def cLen : Con := fun args lo => match args with
  | [.ptr id 0] => lnR id fun j most l => .br (!decide (most = 0)) (.ret ⟨.v (.int .i64 l.length), []⟩) .fail
  | _ => .fail
theorem cLen_ok (B) : ConOk Try.prog B 13 cLen := by
  intro args ρ h w lo out ids hr hrh hfr hfa up
  unfold cLen at hr
  split at hr
  · rename_i id
    obtain ⟨j, most, l, ids', o, ho, ho', hj, hr⟩ := lnR_run hr
    obtain ⟨hb, hr⟩ := br_run (h := h) hr
    cases hr
    have La := lnAt_of hrh ho ho' hj
    refine gives_same (s := .v (.int .i64 l.length)) (fn := Try.f13) Try.func13 (by kernel_rfl) (by kernel_rfl) hrh up ?_
    simp only [denL, La.ptr]
    exact (len_line _ _ most (by simpa using hb) l w La.c0 La.c1 La.row).mono fun e w' ⟨h1, h2⟩ => ⟨h1, by rw [h2]; exact Below.refl _ _⟩
  · cases hr
def cGap : Con := fun args lo => match args with
  | [.ptr id 0, .agg [.v (.int .i64 a), .v (.int .i64 b)]] => lnR id fun j most l => .br (!decide (most = 0) && lenOK l) (.ret ⟨.v (.int .i64 (gapV (a, b) l)), []⟩) .fail
  | _ => .fail
theorem cGap_ok (B) : ConOk Try.prog B 17 cGap := by
  intro args ρ h w lo out ids hr hrh hfr hfa up
  unfold cGap at hr
  split at hr
  · rename_i id a b
    obtain ⟨j, most, l, ids', o, ho, ho', hj, hr⟩ := lnR_run hr
    obtain ⟨hb, hr⟩ := br_run (h := h) hr
    cases hr
    rw [Bool.and_eq_true] at hb
    have La := lnAt_of hrh ho ho' hj
    refine gives_same (s := .v (.int .i64 (gapV (a, b) l))) (fn := Try.f17) Try.func17 (by kernel_rfl) (by kernel_rfl) hrh up ?_
    simp only [denL, La.ptr]
    exact callsIn_wide.1 (gap_in _ _ most (by simpa using hb.1) a b l (lenOK_le hb.2) w La.lt La.c0 La.c1 La.row)
  · cases hr
def s27 (x : HV) : S27 := ⟨x.1, x.2.1, x.2.2⟩
theorem C27_of_row {ty : TypeId} {ρ : Rho} {w : World} {L : Loc} {l : List HV} (h : OK ρ w L (.row ty stH l)) (hl : l.length ≤ 1000000000) :
    ∃ A c, rowVal L = .slice A (l.map s27).length c ∧ (l.map s27).length ≤ c ∧ Kd.C k27 w A (l.map s27).length (l.map s27) := by
  have h' := h
  obtain ⟨h0, ⟨h1, h2, h3, h4⟩ | ⟨h1, h2, h3, arr, h4, h5, h6⟩⟩ := h
  · have h2 : l = ([] : List HV) := h2
    subst h2
    exact ⟨none, 0, by unfold rowVal; rw [h1, h3, h4]; rfl, Nat.zero_le _, rfl, by simp, fun h => by simp at h⟩
  · refine ⟨some ⟨L.blk, 0, none⟩, L.cap, by unfold rowVal; rw [h1, h2, h0, List.length_map]; rfl, by rw [List.length_map]; exact h3, rfl, by rw [List.length_map]; omega, fun _ => ⟨_, rfl, fun j p hp => ?_⟩⟩
    rw [List.getElem?_map] at hp
    cases hx : l[j]? with
    | none => rw [hx] at hp; cases hp
    | some x =>
      rw [hx] at hp
      cases hp
      have hj : j < l.length := (List.getElem?_eq_some_iff.1 hx).1
      obtain ⟨c0, c1, c2⟩ := row_cells h' h1 j hj
      rw [hx] at c0 c1 c2
      refine ⟨[.int .i64 x.1, .int .i64 x.2.1, .int .i64 x.2.2], rfl, k27_mk w (s27 x), fun i u hu => ?_⟩
      show w.cell? ((⟨L.blk, 0, none⟩ : Addr).add (j * 3 + i)) = some u
      rw [Addr.add_lit, Nat.zero_add]
      match i, hu with
      | 0, hu => cases hu; exact c0
      | 1, hu => cases hu; exact c1
      | 2, hu => cases hu; exact c2
      | i + 3, hu => simp at hu
def refR (id : Nat) (k : List HV → Rd Out) : Rd Out := .obj id fun o => match o with
  | .row 27 s l => .opt (castL s stH l) k
  | _ => .fail
theorem refR_run {id : Nat} {k : List HV → Rd Out} {h : Hp} {out : Out} {ids : List Nat} (hr : (refR id k).run h = some (out, ids)) : ∃ l ids', look h id = some (.row 27 stH l) ∧ (k l).run h = some (out, ids') := by
  unfold refR at hr
  obtain ⟨o, ids1, ho, hr⟩ := obj_run hr
  split at hr
  · obtain ⟨l, hl, hr⟩ := opt_run hr
    obtain ⟨rfl, rfl⟩ := castL_eq hl
    exact ⟨_, _, ho, hr⟩
  · cases hr
def likeP (most : Int) (zs l : List HV) (d : Int) : Prop := most ≠ 0 ∧ zs.length ≤ 1000000000 ∧ l.length ≤ 1000000000 ∧ ∃ k1 k2 ss, octroiref13_Sorted.f k1 (l.map s27) = some ss ∧ ss.map tr27 = zs ∧ octroiref13_At.f k2 (l.map s27) d = some (atV zs d)
noncomputable def cLike : Con := fun args lo => match args with
  | [.ptr id 0, .all jw, .v (.int .i64 d)] => lnR id fun j most zs => refR jw fun l => .br (cdec (likeP most zs l d)) (.ret ⟨.v (.bool true), []⟩) .fail
  | _ => .fail
theorem cLike_ok (B) : ConOk Try.prog B 15 cLike := by
  intro args ρ h w lo out ids hr hrh hfr hfa up
  unfold cLike at hr
  split at hr
  · rename_i id jw d
    obtain ⟨j, most, zs, ids', o, ho, ho', hj, hr⟩ := lnR_run hr
    obtain ⟨l, ids2, hw, hr⟩ := refR_run hr
    obtain ⟨hb, hr⟩ := br_run (h := h) hr
    cases hr
    obtain ⟨p1, p2, p3, k1, k2, ss, q1, q2, q3⟩ := cdec_true.1 hb
    have La := lnAt_of hrh ho ho' hj
    obtain ⟨A, c, e1, e2, e3⟩ := C27_of_row (hrh.ok _ _ hw) p3
    refine gives_same (s := .v (.bool true)) (fn := Try.f15) Try.func15 (by kernel_rfl) (by kernel_rfl) hrh up ?_
    simp only [denL, La.ptr, den_all_rowVal, e1]
    exact callsIn_wide.1 (like_in _ _ most p1 zs p2 w La.lt La.c0 La.c1 La.row A c _ e3 e2 d k1 k2 ss q1 q2 q3)
  · cases hr
noncomputable def rGapV (l : List HV) (a b : Int) : Option Int := open Classical in if h : ∃ n k, octroiref13_Gap.f k (l.map s27) a b = some n then some h.choose else none
theorem rGapV_some {l : List HV} {a b n : Int} (h : rGapV l a b = some n) : ∃ k, octroiref13_Gap.f k (l.map s27) a b = some n := by
  unfold rGapV at h
  split at h
  · rename_i hx; cases h; exact hx.choose_spec
  · cases h
noncomputable def cRGap : Con := fun args lo => match args with
  | [.all jw, .v (.int .i64 a), .v (.int .i64 b)] => refR jw fun l => .br (lenOK l) (.opt (rGapV l a b) fun n => .ret ⟨.v (.int .i64 n), []⟩) .fail
  | _ => .fail
theorem cRGap_ok (B) : ConOk Try.prog B 18 cRGap := by
  intro args ρ h w lo out ids hr hrh hfr hfa up
  unfold cRGap at hr
  split at hr
  · rename_i jw a b
    obtain ⟨l, ids2, hw, hr⟩ := refR_run hr
    obtain ⟨hb, hr⟩ := br_run (h := h) hr
    obtain ⟨n, hn, hr⟩ := opt_run hr
    cases hr
    obtain ⟨k, hk⟩ := rGapV_some hn
    obtain ⟨A, c, e1, e2, e3⟩ := C27_of_row (hrh.ok _ _ hw) (lenOK_le hb)
    refine gives_same (s := .v (.int .i64 n)) (fn := Try.f18) Try.func18 (by kernel_rfl) (by kernel_rfl) hrh up ?_
    simp only [denL, den_all_rowVal, e1]
    exact octroiref13_Gap.calls k A c _ a b n w e3 e2 hk
  · cases hr
end Go.Proofs.Ytbmapmigiokbcaa.Ax
namespace Go.Proofs.Ytbmapmigiokbcaa.Ax
open Go Go.RowKit Go.Shelf Go.Proofs.Ytbmapmigiokbcaa.Print Go.Proofs.YtbmapmigiokbcaaW.PrintWords
set_option linter.unusedVariables false
set_option linter.unusedSimpArgs false
theorem sl_nil (w : World) : (binOp BinOp.eql 50 (.slice none 0 0) (.slice none 0 0)).run Try.prog w = .ok (.bool true) w := by
  have hu := Try.underlying50
  have gen : ∀ d, (Op.equalIn (d + 1) 50 (.slice none 0 0) (.slice none 0 0)).run Try.prog w = .ok true w := by
    intro d
    simp only [Op.equalIn, Sem.run_bind, run_underlying hu, Result.andThen_ok, Sem.run_pure]
    rfl
  have e1 : (Op.equal 50 (.slice none 0 0) (.slice none 0 0)).run Try.prog w = .ok true w := gen 9999
  simp [binOp, Sem.run_bind, e1]
theorem sl_some (a : Addr) (n c : Nat) (w : World) : (binOp BinOp.eql 50 (.slice (some a) n c) (.slice none 0 0)).run Try.prog w = .ok (.bool false) w := by
  have hu := Try.underlying50
  have gen : ∀ d, (Op.equalIn (d + 1) 50 (.slice (some a) n c) (.slice none 0 0)).run Try.prog w = .ok false w := by
    intro d
    simp only [Op.equalIn, Sem.run_bind, run_underlying hu, Result.andThen_ok, Sem.run_pure]
  have e1 : (Op.equal 50 (.slice (some a) n c) (.slice none 0 0)).run Try.prog w = .ok false w := gen 9999
  simp [binOp, Sem.run_bind, e1]
attribute [local go_sem] sl_nil sl_some
set_option maxRecDepth 100000 in
set_option maxHeartbeats 2000000 in
theorem clone_row {ρ : Rho} {L : Loc} (l : List (TT stH)) (w : World) (hbig : l.length ≤ 1000000000) (hok : OK ρ w L (.row 55 stH l)) :
    Calls Try.prog 24 #[rowVal L] w fun e w' => ∃ L' : Loc, e = .returned (rowVal L') ∧ (∀ ρ', OK ρ' w' L' (.row 55 stH l)) ∧ (L'.nil = false → w.heap.size ≤ L'.blk) ∧
      w'.os = w.os ∧ w'.tape = w.tape ∧ w'.output = w.output ∧ w.heap.size ≤ w'.heap.size ∧ ∀ b, b < w.heap.size → w'.heap[b]? = w.heap[b]? := by
  obtain ⟨i0, hi0, hz0, hzs, hzb⟩ := info_parts infoH
  have u50 := Try.underlying50
  have hok' := hok
  obtain ⟨h0, ⟨h1, h2, h3, h4⟩ | ⟨h1, h2, h3, arr, h4, h5, h6⟩⟩ := hok
  · have hv : rowVal L = .slice none 0 0 := by unfold rowVal; rw [h1, h3, h4]; rfl
    rw [hv]
    go_enter Try.func24, Try.ntmps24
    go_wp2
    go_ret
    exact ⟨⟨0, 0, 0, 0, true, none⟩, rfl, fun ρ' => ⟨by rw [h2]; rfl, .inl ⟨rfl, h2, rfl, rfl⟩⟩, fun h => (by cases h), rfl, rfl, rfl, Nat.le_refl _, fun _ _ => rfl⟩
  · have hv : rowVal L = .slice (some ⟨L.blk, 0, none⟩) l.length L.cap := by unfold rowVal; rw [h1, h2, h0]; rfl
    obtain ⟨W1, hW1⟩ : ∃ W1, W1 = w.alloc (.cells #[] 55) := ⟨_, rfl⟩
    have hok0 : ∀ ρ', OK ρ' W1 ⟨w.heap.size, 0, 0, 0, false, none⟩ (.row 55 stH []) := fun ρ' => ⟨rfl, .inr ⟨rfl, rfl, Nat.le_refl _, #[], by rw [hW1]; exact heap_alloc_new w _, rfl, rfl⟩⟩
    have hold1 : ∀ b, b < w.heap.size → W1.heap[b]? = w.heap[b]? := fun b hb => by rw [hW1]; exact Below.heap_alloc w _ b hb
    have hb0 : L.blk < w.heap.size := (Array.getElem?_eq_some_iff.1 h4).1
    have hcell : ∀ j u, (flat stH l)[j]? = some u → W1.cell? ((⟨L.blk, 0, none⟩ : Addr).add j) = some u := by
      intro j u hu
      have h4' : W1.heap[L.blk]? = some (.cells arr 55 (0, 0)) := (hold1 _ hb0).trans h4
      rw [Addr.add_lit, Nat.zero_add, blk_cell' h4', ← Array.getElem?_toList]
      have hj : j < l.length * stH.length := by
        have := (List.getElem?_eq_some_iff.1 hu).1
        rwa [flat_length] at this
      rw [← List.getElem?_take_of_lt hj, h6]
      exact hu
    obtain ⟨L', w', hrun, hL', hok2, o1, o2, o3, hsz, hold2, hlb⟩ : ∃ L' w', (∀ ty, (Builtin.append_ #[50, 50] ty #[.slice (some ⟨w.heap.size, 0, none⟩) 0 0, .slice (some ⟨L.blk, 0, none⟩) l.length L.cap]).run Try.prog W1 = .ok (rowVal L') w') ∧ L'.nil = false ∧
        (∀ ρ', OK ρ' w' L' (.row 55 stH l)) ∧ w'.os = w.os ∧ w'.tape = w.tape ∧ w'.output = w.output ∧ w.heap.size ≤ w'.heap.size ∧ (∀ b, b < w.heap.size → w'.heap[b]? = w.heap[b]?) ∧ w.heap.size ≤ L'.blk := by
      by_cases hl0 : l.length = 0
      · have hl : l = [] := List.length_eq_zero_iff.1 hl0
        subst hl
        refine ⟨⟨w.heap.size, 0, 0, 0, false, none⟩, W1, fun ty => ?_, rfl, hok0, by rw [hW1]; rfl, by rw [hW1]; rfl, by rw [hW1]; rfl, by rw [hW1]; simp, hold1, Nat.le_refl _⟩
        exact run_append_nothing (P := Try.prog) u50 hi0 (some ⟨w.heap.size, 0, none⟩) 0 0 (Nat.le_refl _) _ (Go.Src.ofSlice W1 u50 _ 0 L.cap [] (by simp) (fun j u hu => by simp at hu) (fun u hu => by cases hu))
      · obtain ⟨L', w', r1, r2, r3, r4, r5, r6, r7, r8⟩ := append_core (P := Try.prog) (ty := 50) (w := W1) u50 hi0 hz0 (by rw [hzs]; rfl) (by rw [hzs]; decide) (by rw [hzb]; decide) (sc := stH) (by rw [hzs]; rfl) (l := []) (xs := l) (by simpa using hbig) (Nat.pos_of_ne_zero hl0) (hok0 ρ) ⟨L.blk, 0, none⟩ L.cap hcell
        have hs1 : W1.heap.size = w.heap.size + 1 := by rw [hW1]; simp
        refine ⟨L', w', fun ty => r1, r2, fun ρ' => r3 ρ', r4.trans (by rw [hW1]; rfl), r5.trans (by rw [hW1]; rfl), r6.trans (by rw [hW1]; rfl), by omega, ?_, ?_⟩
        · intro b hb
          rcases r8 with ⟨_, q1, q2, q3⟩ | ⟨q1, q2⟩
          · exact (q3 b (by show b ≠ w.heap.size; omega)).trans (hold1 b hb)
          · exact (q2 b (by omega)).trans (hold1 b hb)
        · rcases r8 with ⟨_, q1, q2, q3⟩ | ⟨q1, q2⟩
          · rw [q2]; exact Nat.le_refl _
          · rw [q1]; omega
    rw [hv]
    rw [hW1] at hrun
    go_enter Try.func24, Try.ntmps24
    go_wp2_with (at_builtin; refine Lib.wpList_append_run _ rfl _ _ _ _ rfl _ _ rfl rfl _ _ (hrun _) ?_)
    go_ret
    exact ⟨L', rfl, hok2, fun _ => hlb, o1, o2, o3, hsz, hold2⟩
def cSClone : Con := fun args lo => match args with
  | [.all id] => .obj id fun o => match o with
    | .row 55 s l => .opt (castL s stH l) fun l => .br (lenOK l) (.ret ⟨.all lo, [(lo, .row 55 stH l)]⟩) .fail
    | _ => .fail
  | _ => .fail
theorem cSClone_ok (B) : ConOk Try.prog B 24 cSClone := by
  intro args ρ h w lo out ids hr hrh hfr hfa up
  unfold cSClone at hr
  split at hr
  · rename_i id
    obtain ⟨o, ids1, ho, hr⟩ := obj_run hr
    split at hr
    · obtain ⟨l, hl, hr⟩ := opt_run hr
      obtain ⟨rfl, rfl⟩ := castL_eq hl
      obtain ⟨hb, hr⟩ := br_run (h := h) hr
      cases hr
      refine .inl ⟨Go.run_callFunc_enter' Try.func24 (by kernel_rfl) rfl _ _, ?_⟩
      simp only [denL, den_all_rowVal]
      refine (clone_row _ w (lenOK_le hb) (hrh.ok _ _ ho)).mono ?_
      rintro e w' ⟨L', rfl, r3, hL, r4, r5, r6, r7, r8⟩
      have mk := made_new (B := B) (lo := lo) (hi := lo + wide) (s := .all lo) (o := .row 55 stH _) (L := L') hrh hfr (by unfold wide; omega) up ⟨r4, r5, r6, r7, fun b hb => r8 b (by
        rcases Nat.lt_or_ge b w.heap.size with h' | h'
        · exact h'
        · exact absurd (up b h') hb)⟩ r8 rfl hL (r3 _)
      refine ⟨_, rfl, setRho ρ lo L', ?_⟩
      rw [den_all_rowVal, setRho_same] at mk
      exact mk
    · cases hr
  · cases hr
end Go.Proofs.Ytbmapmigiokbcaa.Ax
namespace Go.Proofs.Ytbmapmigiokbcaa.Ax
open Go Go.RowKit Go.Shelf Go.Proofs.Ytbmapmigiokbcaa.Print Go.Proofs.YtbmapmigiokbcaaW.PrintWords
set_option linter.unusedVariables false
set_option linter.unusedSimpArgs false
def nilLoc : Loc := ⟨0, 0, 0, 0, true, none⟩
theorem made_two {B : Nat → Prop} {ρ : Rho} {h : Hp} {w w' : World} {lo hi : Nat} {ty e : TypeId} {sc : List Sc} {x : Value} {b : Nat} (hr : HR B ρ h w) (hf : HFree lo hi h) (hlo : lo + 1 < hi) (up : ∀ b, w.heap.size ≤ b → B b) (hk : Keeps B w w')
    (hold : ∀ b, b < w.heap.size → w'.heap[b]? = w.heap[b]?) (hb : w.heap.size ≤ b) (hh : w'.heap[b]? = some (.cells #[.slice none 0 0, x] ty (0, 0))) :
    Made B ρ h w lo hi ⟨.ptr lo 0, [(lo, .cells ty [.all (lo + 1), .v x]), (lo + 1, .row e sc [])]⟩ (setRho (setRho ρ lo ⟨b, 0, 0, 0, false, none⟩) (lo + 1) nilLoc) (.pointer (some ⟨b, 0, none⟩)) w' := by
  obtain ⟨ρ', hρ'⟩ : ∃ ρ', ρ' = setRho (setRho ρ lo ⟨b, 0, 0, 0, false, none⟩) (lo + 1) nilLoc := ⟨_, rfl⟩
  have e0 : ρ' lo = ⟨b, 0, 0, 0, false, none⟩ := by rw [hρ', setRho_other _ _ (by omega), setRho_same]
  have e1 : ρ' (lo + 1) = nilLoc := by rw [hρ', setRho_same]
  have e2 : ∀ i, i ≠ lo → i ≠ lo + 1 → ρ' i = ρ i := fun i h1 h2 => by rw [hρ', setRho_other _ _ h2, setRho_other _ _ h1]
  have hρ : ∀ i, i < lo ∨ hi ≤ i → ρ' i = ρ i := fun i hi => e2 i (by omega) (by omega)
  have hne : ∀ i x, look h i = some x → i ≠ lo ∧ i ≠ lo + 1 := fun i x hx => by have := (hf i x hx).1; omega
  have hkeep : HR B ρ h w' := hr.keep hk.size fun i x hx hd hn => hold _ ((hr.ok i x hx).lt hd hn)
  have lk : ∀ i o, look (puts h [(lo, .cells ty [.all (lo + 1), .v x]), (lo + 1, .row e sc [])]) i = some o → (i = lo + 1 ∧ o = .row e sc []) ∨ (i = lo ∧ o = .cells ty [.all (lo + 1), .v x]) ∨ (i ≠ lo ∧ i ≠ lo + 1 ∧ look h i = some o) := by
    intro i o hi
    simp only [puts, look_put] at hi
    by_cases h1 : lo + 1 = i
    · rw [if_pos h1] at hi; cases hi; exact .inl ⟨h1.symm, rfl⟩
    · rw [if_neg h1] at hi
      by_cases h2 : lo = i
      · rw [if_pos h2] at hi; cases hi; exact .inr (.inl ⟨h2.symm, rfl⟩)
      · rw [if_neg h2] at hi; exact .inr (.inr ⟨fun e => h2 e.symm, fun e => h1 e.symm, hi⟩)
  rw [← hρ']
  refine ⟨by simp only [den, e0, Nat.add_zero], hρ, ⟨?_, ?_, ?_, ?_⟩, hk⟩
  · intro i o hio
    rcases lk i o hio with ⟨rfl, rfl⟩ | ⟨rfl, rfl⟩ | ⟨h1, h2, h3⟩
    · rw [e1]; exact ⟨rfl, .inl ⟨rfl, rfl, rfl, rfl⟩⟩
    · rw [e0]
      refine ⟨rfl, rfl, ?_⟩
      have : (denL ρ' [.all (i + 1), .v x]).toArray = #[.slice none 0 0, x] := by simp only [denL, den, e1]; rfl
      rw [this]; exact hh
    · rw [e2 i h1 h2]
      exact (hkeep.ok i _ h3).keep (fun ty' c' e => denL_free (lo := lo) (hi := hi) hρ c' (free_cells (hf i _ h3).2 ty' c' e)) (fun _ => rfl) (Nat.le_refl _)
  · intro i o hi ho hn
    rcases lk i o hi with ⟨rfl, rfl⟩ | ⟨rfl, rfl⟩ | ⟨h1, h2, h3⟩
    · rw [e1] at hn; cases hn
    · rw [e0]; exact up _ hb
    · rw [e2 i h1 h2] at hn ⊢; exact hr.inB i o h3 ho hn
  · intro i o hi ho hn
    rcases lk i o hi with ⟨rfl, rfl⟩ | ⟨rfl, rfl⟩ | ⟨h1, h2, h3⟩
    · cases ho
    · cases ho
    · rw [e2 i h1 h2] at hn ⊢; exact hr.arg i o h3 ho hn
  · intro i j o o' hi hj ho ho' hni hnj hij
    have old : ∀ k q, look h k = some q → q.own = true → (ρ k).nil = false → (ρ k).blk < w.heap.size := fun k q hq hqo hqn => (hr.ok k q hq).lt (fun e => by subst e; cases hqo) hqn
    rcases lk i o hi with ⟨rfl, rfl⟩ | ⟨rfl, rfl⟩ | ⟨h1, h2, h3⟩
    · rw [e1] at hni; cases hni
    · rcases lk j o' hj with ⟨rfl, rfl⟩ | ⟨rfl, rfl⟩ | ⟨g1, g2, g3⟩
      · rw [e1] at hnj; cases hnj
      · exact absurd rfl hij
      · rw [e2 j g1 g2] at hnj ⊢
        rw [e0]
        have := old j o' g3 ho' hnj
        intro e; simp only at e; omega
    · rcases lk j o' hj with ⟨rfl, rfl⟩ | ⟨rfl, rfl⟩ | ⟨g1, g2, g3⟩
      · rw [e1] at hnj; cases hnj
      · rw [e2 i h1 h2] at hni ⊢
        rw [e0]
        have := old i o h3 ho hni
        intro e; simp only at e; omega
      · rw [e2 i h1 h2] at hni ⊢
        rw [e2 j g1 g2] at hnj ⊢
        exact hr.inj i j o o' h3 g3 ho ho' hni hnj hij
set_option maxRecDepth 100000 in
theorem new_yes (m : Int) (w : World) (h1 : 1 ≤ m) (h2 : m ≤ 256) : Calls Try.prog 9 #[.int .i64 m] w fun e w' => e = .returned (.pointer (some ⟨w.heap.size, 0, none⟩)) ∧ w' = w.alloc (.cells #[.slice none 0 0, .int .i64 m] 52) := by
  have c1 : decide (m < 1) = false := decide_eq_false (by omega)
  have c2 : decide (256 < m) = false := decide_eq_false (by omega)
  go_enter Try.func9, Try.ntmps9
  go_wp2
  go_ret
  exact ⟨rfl, rfl⟩
set_option maxRecDepth 100000 in
theorem new_no (m : Int) (w : World) (h1 : m < 1 ∨ 256 < m) : Calls Try.prog 9 #[.int .i64 m] w fun e w' => e = .returned (.pointer none) ∧ w' = w := by
  go_enter Try.func9, Try.ntmps9
  by_cases c : m < 1
  · have c1 : decide (m < 1) = true := decide_eq_true c
    go_wp2
    go_ret
    exact ⟨rfl, rfl⟩
  · have c1 : decide (m < 1) = false := decide_eq_false c
    have c2 : decide (256 < m) = true := decide_eq_true (by omega)
    go_wp2
    go_ret
    exact ⟨rfl, rfl⟩
def newOK (m : Int) : Bool := decide (1 ≤ m) && decide (m ≤ 256)
def cNew : Con := fun args lo => match args with
  | [.v (.int .i64 m)] => .br (newOK m) (.ret ⟨.ptr lo 0, [(lo, .cells 52 [.all (lo + 1), .v (.int .i64 m)]), (lo + 1, .row 55 stH [])]⟩) (.ret ⟨.v (.pointer none), []⟩)
  | _ => .fail
theorem br_run2 {α : Type} {b : Bool} {t s : Rd α} {h : Hp} {r : α} {ids : List Nat} (hr : (Rd.br b t s).run h = some (r, ids)) : (b = true ∧ t.run h = some (r, ids)) ∨ (b = false ∧ s.run h = some (r, ids)) := by
  cases b with
  | true => exact .inl ⟨rfl, hr⟩
  | false => exact .inr ⟨rfl, hr⟩
theorem cNew_ok (B) : ConOk Try.prog B 9 cNew := by
  intro args ρ h w lo out ids hr hrh hfr hfa up
  unfold cNew at hr
  split at hr
  · rename_i m
    rcases br_run2 (h := h) hr with ⟨hb, hr⟩ | ⟨hb, hr⟩
    · cases hr
      simp only [newOK, Bool.and_eq_true, decide_eq_true_eq] at hb
      refine .inl ⟨Go.run_callFunc_enter' Try.func9 (by kernel_rfl) rfl _ _, ?_⟩
      simp only [denL, den]
      refine (new_yes m w hb.1 hb.2).mono ?_
      rintro e w' ⟨rfl, rfl⟩
      refine ⟨_, rfl, _, made_two hrh hfr (by unfold wide; omega) up ⟨rfl, rfl, rfl, by simp, fun k hk => Below.heap_alloc w _ k ?_⟩ (fun b hb => Below.heap_alloc w _ b hb) (Nat.le_refl _) (heap_alloc_new w _)⟩
      rcases Nat.lt_or_ge k w.heap.size with h' | h'
      · exact h'
      · exact absurd (up k h') hk
    · cases hr
      have hb : m < 1 ∨ 256 < m := by
        simp only [newOK, Bool.and_eq_false_iff, decide_eq_false_iff_not] at hb
        omega
      refine gives_same (s := .v (.pointer none)) (fn := Try.f9) Try.func9 (by kernel_rfl) (by kernel_rfl) hrh up ?_
      simp only [denL, den]
      exact (new_no m w hb).mono fun e w' ⟨h1, h2⟩ => ⟨h1, by rw [h2]; exact Below.refl _ _⟩
  · cases hr
end Go.Proofs.Ytbmapmigiokbcaa.Ax
namespace Go.Proofs.Ytbmapmigiokbcaa.Ax
open Go Go.RowKit Go.Shelf Go.Proofs.Ytbmapmigiokbcaa.Print Go.Proofs.YtbmapmigiokbcaaW.PrintWords
set_option linter.unusedVariables false
set_option linter.unusedSimpArgs false
def cn0 : Nat → St → Option St := fun _ σ => some σ
theorem cn0_ok (B' : Nat → Prop) (w : Base) (n : Nat) : CnOk cn0 B' w n := fun k σ σ' h => by cases h; exact ⟨fun h => h, fun ρ a w hR => ⟨ρ, hR⟩⟩
abbrev vi (n : Int) : SV := .v (.int .i64 n)
abbrev IT : IntKind := .i64
def idxP {α β : Type} (l : List α) (i : Int) (x : Option β) : Option β := sel (decide (0 ≤ i)) (sel (decide (i < (l.length : Int))) (sel (decide (i.toNat < l.length)) x none) none) none
def rAt (l : List HV) (i : Int) : HV := List.getD l i.toNat (0, 0, 0)
noncomputable def CRs : FuncId → Option Con
  | 20 => some cRRight
  | _ => none
def TSt : Nat → Option (List Nat × List (Nat × TypeId × List Sc))
  | 4 => some ([0, 1, 5, 8], [])
  | _ => none
noncomputable def LSt (F kk : Nat) (l : List HV) (m a b x i : Int) : Option (SV × Hp) := loopAt (eff Try.prog CRs) Try.f16.ntmps (cnRow 1 TSt) F Try.prog Try.f16 (KG (gcSt [0] 1) 1) [.R, .R, .L, .R, .D] kk
  ⟨[(0, .all 0), (1, vi m), (5, .ptr 1 0), (8, vi i)], [(0, .row 27 stH l), (1, .cells 27 [vi a, vi b, vi x])], 3⟩
abbrev snoc (l : List HV) (y : HV) : List HV := l ++ [y]
def sAls (l : List HV) (e : Int) : Option (SV × Hp) := some (.tup [.all 0, vi e], [(0, .row 27 stH l)])
def sNew (l : List HV) (y : HV) : Option (SV × Hp) := some (.tup [.all 1, vi 0], [(0, .row 27 stH l), (1, .row 27 stH (snoc l y))])
def sEnd (l : List HV) (m : Int) (y : HV) : Option (SV × Hp) := sel (decide (m ≤ (l.length : Int))) (sAls l 31) (sel (Nat.ble (0 + l.length) 1000000000) (sel (Nat.ble (l.length + 1) 1000000000) (sNew l y) none) none)
theorem LSt_eq (F kk : Nat) (l : List HV) (m a b x i : Int) : LSt F (kk + 1) l m a b x i =
    sel (decide (i < (l.length : Int))) (idxP l i (sel (decide ((rAt l i).1 ≤ b)) (idxP l i (sel (decide (a ≤ (rAt l i).2.1)) (sAls l 50) (LSt F kk l m a b x (IT.wrap (i + 1))))) (LSt F kk l m a b x (IT.wrap (i + 1))))) (sEnd l m (a, b, x)) := by kernel_rfl
noncomputable def rsEv (F : Nat) (l : List HV) (m a b x : Int) : Option (SV × Hp) := evFn Try.prog CRs (cnRow 1 TSt) F Try.f16 [.all 0, vi m, .agg [vi a, vi b, vi x]] [(0, .row 27 stH l)] 1 (KG (gcSt [0] 1) 1)
theorem rs_tree (F : Nat) (l : List HV) (m a b x : Int) : rsEv F l m a b x = sel (!rightB a b) (sAls l 30) (LSt F F l m a b x 0) := by kernel_rfl
def clashB (a b : Int) (l : List HV) : Bool := l.any fun h => decide (h.1 ≤ b) && decide (a ≤ h.2.1)
theorem idxP_at {β : Type} (l : List HV) (i : Nat) (h : i < l.length) (x : Option β) : idxP l i x = x := by
  unfold idxP
  rw [decide_eq_true (by omega), decide_eq_true (by omega), decide_eq_true (by omega)]
  rfl
theorem rAt_at (l : List HV) (i : Nat) (h : i < l.length) : rAt l i = l[i] := by
  unfold rAt; simp [h]
theorem sel_t {α : Type} (x y : Option α) : sel true x y = x := rfl
theorem sel_f {α : Type} (x y : Option α) : sel false x y = y := rfl
theorem wrap_i (n : Nat) (h : n ≤ 1000000) : IT.wrap (((n : Nat) : Int) + 1) = ((n + 1 : Nat) : Int) := by
  show IntKind.i64.wrap _ = _
  rw [IntKind.wrap_i64]
  omega
theorem LSt_run (F : Nat) (l : List HV) (m a b x : Int) (hl : l.length ≤ 1000) : ∀ (n i kk : Nat), i + n = l.length → n < kk → LSt F kk l m a b x i = sel (clashB a b (l.drop i)) (sAls l 50) (sEnd l m (a, b, x))
  | 0, i, kk, hi, hk => by
    obtain ⟨k, rfl⟩ : ∃ k, kk = k + 1 := ⟨kk - 1, by omega⟩
    rw [LSt_eq, decide_eq_false (by simp; omega), sel_f, List.drop_eq_nil_of_le (by omega)]
    rfl
  | n + 1, i, kk, hi, hk => by
    obtain ⟨k, rfl⟩ : ∃ k, kk = k + 1 := ⟨kk - 1, by omega⟩
    have hlt : i < l.length := by omega
    have ih := LSt_run F l m a b x hl n (i + 1) k (by omega) (by omega)
    rw [LSt_eq, decide_eq_true (by show (i : Int) < (l.length : Int); omega), sel_t, wrap_i i (by omega), ih]
    show idxP (l : List HV) i _ = _
    rw [idxP_at (l : List HV) i hlt, rAt_at (l : List HV) i hlt, List.drop_eq_getElem_cons hlt]
    show sel _ (idxP (l : List HV) i _) _ = sel ((decide (l[i].1 ≤ b) && decide (a ≤ l[i].2.1)) || clashB a b (l.drop (i + 1))) _ _
    rw [idxP_at (l : List HV) i hlt]
    cases decide (l[i].1 ≤ b) <;> cases decide (a ≤ l[i].2.1) <;> rfl
def rOkB (l : List HV) (m a b : Int) : Bool := rightB a b && (!clashB a b l && !decide (m ≤ (l.length : Int)))
def rErr (l : List HV) (m a b : Int) : Int := bif !rightB a b then 30 else bif clashB a b l then 50 else 31
theorem rs_run (l : List HV) (m a b x : Int) (hl : l.length ≤ 1000) (F : Nat) (hF : 1001 ≤ F) : rsEv F l m a b x = sel (rOkB l m a b) (sNew l (a, b, x)) (sAls l (rErr l m a b)) := by
  rw [rs_tree, show (0 : Int) = ((0 : Nat) : Int) from rfl, LSt_run F l m a b x hl l.length 0 F (by omega) (by omega)]
  unfold rOkB rErr sEnd
  have h1 : Nat.ble (0 + l.length) 1000000000 = true := Nat.ble_eq_true_of_le (by omega)
  have h2 : Nat.ble (l.length + 1) 1000000000 = true := Nat.ble_eq_true_of_le (by omega)
  show sel _ _ (sel (clashB a b l) _ (sel _ _ (sel (Nat.ble (0 + l.length) 1000000000) (sel (Nat.ble (l.length + 1) 1000000000) _ _) _))) = _
  rw [h1, h2]
  cases rightB a b <;> cases clashB a b l <;> cases decide (m ≤ (l.length : Int)) <;> rfl
def len1000 (l : List HV) : Bool := Nat.ble l.length 1000
def cRSet : Con := fun args lo => match args with
  | [.all jw, .v (.int .i64 m), .agg [.v (.int .i64 a), .v (.int .i64 b), .v (.int .i64 x)]] => refR jw fun l => .br (len1000 l) (.br (rOkB l m a b)
      (.ret ⟨.tup [.all lo, vi 0], [(jw, .row 27 stH l), (lo, .row 27 stH (snoc l (a, b, x)))]⟩)
      (.ret ⟨.tup [.all jw, vi (rErr l m a b)], [(jw, .row 27 stH l)]⟩)) .fail
  | _ => .fail
theorem CRs_ok : ∀ B' g φ, CRs g = some φ → ConOk Try.prog B' g φ := by
  intro B' g φ h
  unfold CRs at h
  split at h
  · cases h; exact cRRight_ok B'
  · cases h
theorem cnRow_okT (p : Nat) (T : Nat → Option (List Nat × List (Nat × TypeId × List Sc))) (B' : Nat → Prop) (w0 : Base) (n : Nat) (hp : w0.pin ≤ p) : CnOk (cnRow p T) B' w0 n := cnRow_ok hp
theorem cRSet_ok (B) : ConOk Try.prog B 16 cRSet := by
  intro args ρ h w lo out ids hr hrh hfr hfa up
  unfold cRSet at hr
  split at hr
  · rename_i jw m a b x
    obtain ⟨l, ids2, hw, hr⟩ := refR_run hr
    obtain ⟨hb, hr⟩ := br_run (h := h) hr
    have hlen := Nat.le_of_ble_eq_true hb
    have hrun := rs_run l m a b x hlen 1001 (Nat.le_refl _)
    obtain ⟨mm, hmm⟩ : ∃ mm : Nat → Nat, mm = fun i => if i = 0 then jw else lo + wide := ⟨_, rfl⟩
    have m0 : mm 0 = jw := by rw [hmm]; rfl
    have look0 : ∀ i oc, look [((0 : Nat), AObj.row 27 stH l)] i = some oc → i = 0 ∧ oc = .row 27 stH l := by
      intro i oc hi
      simp only [look] at hi
      by_cases e0 : 0 = i
      · subst e0; cases hi; exact ⟨rfl, rfl⟩
      · rw [beq_no e0] at hi; cases hi
    have go : ∀ r hp', rsEv 1001 l m a b x = some (r, hp') → (∃ o', look hp' 0 = some o' ∧ (o'.own = true ∨ o' = .dead)) → CallGives Try.prog 16 (denL ρ (renL mm [.all 0, vi m, .agg [vi a, vi b, vi x]])).toArray w fun v w' => ∃ ρ', Made B ρ h w lo (lo + wide) ⟨ren (mr mm 1 lo) r, updGo (mr mm 1 lo) hp' hp'⟩ ρ' v w' := by
      intro r hp' he hown
      refine con_ownG (B := B) (cn := cnRow 1 TSt) (F := 1001) mixed Try.func16 (by kernel_rfl) rfl CRs_ok (p := 1) (fun B' w0 hp => cnRow_okT 1 TSt B' w0 _ hp) [.all 0, vi m, .agg [vi a, vi b, vi x]] mm [(0, .row 27 stH l)] r hp' (gc_GOk 1) he ρ h w lo hrh hfr up rfl ?_ ?_ ?_ ?_ ?_
      · intro i oc hi
        obtain ⟨rfl, rfl⟩ := look0 i oc hi
        exact ⟨by decide, rfl⟩
      · intro i hi
        obtain rfl : i = 0 := by omega
        rw [m0]; exact (hfr jw _ hw).1
      · intro i oc hi
        obtain ⟨rfl, rfl⟩ := look0 i oc hi
        rw [m0]; exact ⟨_, hw, .row _ _ _⟩
      · intro i j oc oc' hi hj hij _
        obtain ⟨rfl, rfl⟩ := look0 i oc hi
        obtain ⟨rfl, rfl⟩ := look0 j oc' hj
        exact absurd rfl hij
      · intro i oc hi _
        obtain ⟨rfl, rfl⟩ := look0 i oc hi
        exact hown
    have e1 : denL ρ (renL mm [.all 0, vi m, .agg [vi a, vi b, vi x]]) = denL ρ [.all jw, vi m, .agg [vi a, vi b, vi x]] := by simp only [renL, ren, m0]
    rw [e1] at go
    have q0 : mr mm 1 lo 0 = jw := m0
    have q1 : mr mm 1 lo 1 = lo := rfl
    rcases br_run2 (h := h) hr with ⟨hc, hr⟩ | ⟨hc, hr⟩
    · cases hr
      rw [hc, sel_t] at hrun
      have := go _ _ hrun ⟨_, rfl, .inl rfl⟩
      have e2 : ren (mr mm 1 lo) (.tup [.all 1, vi 0]) = .tup [.all lo, vi 0] := by simp only [ren, renL, q1]
      have e3 : updGo (mr mm 1 lo) [(0, .row 27 stH l), (1, .row 27 stH (snoc l (a, b, x)))] [(0, .row 27 stH l), (1, .row 27 stH (snoc l (a, b, x)))] = [(jw, .row 27 stH l), (lo, .row 27 stH (snoc l (a, b, x)))] := by
        show [(mr mm 1 lo 0, _), (mr mm 1 lo 1, _)] = _
        rw [q0, q1]; rfl
      rw [e2, e3] at this
      exact this
    · cases hr
      rw [hc, sel_f] at hrun
      have := go _ _ hrun ⟨_, rfl, .inl rfl⟩
      have e2 : ren (mr mm 1 lo) (.tup [.all 0, vi (rErr l m a b)]) = .tup [.all jw, vi (rErr l m a b)] := by simp only [ren, renL, q0]
      have e3 : updGo (mr mm 1 lo) [(0, .row 27 stH l)] [(0, .row 27 stH l)] = [(jw, .row 27 stH l)] := by
        show [(mr mm 1 lo 0, _)] = _
        rw [q0]; rfl
      rw [e2, e3] at this
      exact this
  · cases hr
end Go.Proofs.Ytbmapmigiokbcaa.Ax
namespace Go.Proofs.Ytbmapmigiokbcaa.Ax
open Go Go.RowKit Go.Shelf Go.Proofs.Ytbmapmigiokbcaa.Print Go.Proofs.YtbmapmigiokbcaaW.PrintWords
set_option linter.unusedVariables false
set_option linter.unusedSimpArgs false
noncomputable def CLn : FuncId → Option Con
  | 21 => some cNone
  | 19 => some cRight
  | 22 => some cFind
  | 6 => some cMeet
  | 23 => some cInsert
  | 24 => some cSClone
  | _ => none
theorem CLn_ok : ∀ B' g φ, CLn g = some φ → ConOk Try.prog B' g φ := by
  intro B' g φ h
  unfold CLn at h
  split at h <;> first | (cases h; done) | skip
  · cases h; exact cNone_ok B'
  · cases h; exact cRight_ok B'
  · cases h; exact cFind_ok B'
  · cases h; exact cMeet_ok B'
  · cases h; exact cInsert_ok B'
  · cases h; exact cSClone_ok B'
def hcL (m : Int) (l : List HV) : Hp := [(0, .cells 52 [.all 1, vi m]), (1, .row 55 stH l)]
noncomputable def lnEv (fn : Func) (rest : List SV) (m : Int) (l : List HV) : Option (SV × Hp) := evFn Try.prog CLn cn0 40 fn (.ptr 0 0 :: rest) (hcL m l) 2 (KG (gcSt [0] 2) 2)
theorem ln_call {f : FuncId} {fn : Func} {c0 : Code} (hf : Try.prog.funcs[f]? = some fn) (hname : (fn.name == "runtime.NumGoroutine") = false) (hbody : fn.body = some c0) {rest : List SV} (hrest : ltL 0 rest = true) {m : Int} {l : List HV} {r : SV} {hp' : Hp} (he : lnEv fn rest m l = some (r, hp'))
    (h0 : ∃ o', look hp' 0 = some o' ∧ (o'.own = true ∨ o' = .dead)) (h1 : ∃ o', look hp' 1 = some o' ∧ (o'.own = true ∨ o' = .dead)) (mm : Nat → Nat)
    (B : Nat → Prop) (ρ : Rho) (h : Hp) (w : World) (lo : Nat) (hrh : HR B ρ h w) (hfr : HFree lo (lo + wide) h) (up : ∀ b, w.heap.size ≤ b → B b) {id j : Nat} (ho : look h id = some (.cells 52 [.all j, vi m])) (hj : look h j = some (.row 55 stH l)) (m0 : mm 0 = id) (m1 : mm 1 = j) :
    CallGives Try.prog f (denL ρ (.ptr id 0 :: rest)).toArray w fun v w' => ∃ ρ', Made B ρ h w lo (lo + wide) ⟨ren (mr mm 2 lo) r, updGo (mr mm 2 lo) hp' hp'⟩ ρ' v w' := by
  have hne : id ≠ j := fun e => by subst e; rw [ho] at hj; cases hj
  have look01 : ∀ i oc, look (hcL m l) i = some oc → (i = 0 ∧ oc = .cells 52 [.all 1, vi m]) ∨ (i = 1 ∧ oc = .row 55 stH l) := by
    intro i oc hi
    unfold hcL at hi
    simp only [look] at hi
    by_cases e0 : 0 = i
    · subst e0; cases hi; exact .inl ⟨rfl, rfl⟩
    · rw [beq_no e0] at hi
      by_cases e1 : 1 = i
      · subst e1; cases hi; exact .inr ⟨rfl, rfl⟩
      · rw [beq_no e1] at hi; cases hi
  have := con_ownG (B := B) (cn := cn0) (F := 40) mixed hf hname hbody CLn_ok (p := 2) (fun B' w0 _ => cn0_ok B' w0 _) (.ptr 0 0 :: rest) mm (hcL m l) r hp' (gc_GOk 2) he ρ h w lo hrh hfr up
    (by simp only [ltL, SV.lt, Bool.and_eq_true]; exact ⟨rfl, ltL_mono (Nat.zero_le _) rest hrest⟩)
    (fun i oc hi => by rcases look01 i oc hi with ⟨rfl, rfl⟩ | ⟨rfl, rfl⟩ <;> exact ⟨by decide, rfl⟩)
    (fun i hi => by
      match i, hi with
      | 0, _ => rw [m0]; exact (hfr id _ ho).1
      | 1, _ => rw [m1]; exact (hfr j _ hj).1)
    (fun i oc hi => by
      rcases look01 i oc hi with ⟨rfl, rfl⟩ | ⟨rfl, rfl⟩
      · rw [m0]
        refine ⟨_, ho, ?_⟩
        have := View.own (m := mm) 52 [.all 1, vi m]
        simp only [renL, ren, m1] at this
        exact this
      · rw [m1]; exact ⟨_, hj, .row _ _ _⟩)
    (fun i i' oc oc' hi hi' hii _ => by
      rcases look01 i oc hi with ⟨rfl, rfl⟩ | ⟨rfl, rfl⟩ <;> rcases look01 i' oc' hi' with ⟨rfl, rfl⟩ | ⟨rfl, rfl⟩
      · exact absurd rfl hii
      · rw [m0, m1]; exact hne
      · rw [m0, m1]; exact fun e => hne e.symm
      · exact absurd rfl hii)
    (fun i oc hi hown => by
      rcases look01 i oc hi with ⟨rfl, rfl⟩ | ⟨rfl, rfl⟩
      · exact h0
      · exact h1)
  have e1 : denL ρ (renL mm (.ptr 0 0 :: rest)) = denL ρ (.ptr id 0 :: rest) := by
    simp only [renL, ren, m0, renL_lt0 mm rest hrest]
  rw [e1] at this
  exact this
def sLn (l : List HV) (m e : Int) : Option (SV × Hp) := some (vi e, hcL m l)
def sLnNew (l : List HV) (m : Int) (n : Nat) (y : HV) : Option (SV × Hp) := some (vi 0, [(0, .cells 52 [.all 2, vi m]), (1, .dead), (2, .row 55 stH (insL l n y))])
def setEnd (l : List HV) (m a b x : Int) : Option (SV × Hp) := sel (decide (m ≤ (l.length : Int))) (sLn l m 31) (sel (decide (0 ≤ (findV l a : Int)) && (decide ((findV l a : Int) ≤ (l.length : Int)) && Nat.ble (l.length + 1) 1000000000)) (sLnNew l m (findV l a) (a, b, x)) none)
theorem set_tree (l : List HV) (m a b x : Int) : lnEv Try.f11 [.agg [vi a, vi b], vi x] m l =
    sel (!decide (m = 0)) (sel (!rightB a b) (sLn l m 30) (sel (lenOK l) (sel (decide ((findV l a : Int) < (l.length : Int))) (idxP l (findV l a) (sel (meetV (rAt l (findV l a)).1 (rAt l (findV l a)).2.1 a b).2.2 (sLn l m 50) (setEnd l m a b x))) (setEnd l m a b x)) none)) none := by kernel_rfl
theorem clone_tree (l : List HV) (m : Int) : lnEv Try.f14 [] m l =
    sel (lenOK l) (some (.ptr 2 0, [(0, .cells 52 [.all 1, vi m]), (1, .row 55 stH l), (2, .cells 52 [.all 3, vi m]), (3, .row 55 stH l)])) none := by kernel_rfl
def hitB (l : List HV) (a b : Int) : Bool := match l[findV l a]? with
  | none => false
  | some h => (meetV h.1 h.2.1 a b).2.2
def sOkB (l : List HV) (m a b : Int) : Bool := rightB a b && (!hitB l a b && !decide (m ≤ (l.length : Int)))
def sErr (l : List HV) (m a b : Int) : Int := bif !rightB a b then 30 else bif hitB l a b then 50 else 31
theorem set_run (l : List HV) (m a b x : Int) (hm : m ≠ 0) (hl : l.length ≤ 1000) : lnEv Try.f11 [.agg [vi a, vi b], vi x] m l = sel (sOkB l m a b) (sLnNew l m (findV l a) (a, b, x)) (sLn l m (sErr l m a b)) := by
  have hle := findV_le l a
  have h1 : lenOK l = true := Nat.ble_eq_true_of_le (by omega)
  have h2 : (decide (0 ≤ (findV l a : Int)) && (decide ((findV l a : Int) ≤ (l.length : Int)) && Nat.ble (l.length + 1) 1000000000)) = true := by
    rw [decide_eq_true (by omega), decide_eq_true (by omega), Nat.ble_eq_true_of_le (by omega)]; rfl
  rw [set_tree, decide_eq_false hm, h1]
  unfold setEnd
  rw [h2]
  unfold sOkB sErr hitB
  by_cases hlt : findV l a < l.length
  · rw [decide_eq_true (by omega), idxP_at l _ hlt, rAt_at l _ hlt, List.getElem?_eq_getElem hlt]
    simp only [Bool.not_false, sel_t]
    cases rightB a b <;> cases (meetV l[findV l a].1 l[findV l a].2.1 a b).2.2 <;> cases decide (m ≤ (l.length : Int)) <;> rfl
  · rw [decide_eq_false (by omega), List.getElem?_eq_none (by omega)]
    simp only [Bool.not_false, sel_t, sel_f]
    cases rightB a b <;> cases decide (m ≤ (l.length : Int)) <;> rfl
def lnOwn (id : Nat) (k : Nat → Int → List HV → Rd Out) : Rd Out := .obj id fun o => match o with
  | .cells 52 [.all j, .v (.int .i64 most)] => .obj j fun o2 => match o2 with
    | .row 55 s l => .opt (castL s stH l) (k j most)
    | _ => .fail
  | _ => .fail
theorem lnOwn_run {id : Nat} {k : Nat → Int → List HV → Rd Out} {h : Hp} {out : Out} {ids : List Nat} (hr : (lnOwn id k).run h = some (out, ids)) :
    ∃ j most l ids', look h id = some (.cells 52 [.all j, .v (.int .i64 most)]) ∧ look h j = some (.row 55 stH l) ∧ (k j most l).run h = some (out, ids') := by
  unfold lnOwn at hr
  obtain ⟨o, ids1, ho, hr⟩ := obj_run hr
  split at hr
  · rename_i j most
    obtain ⟨o2, ids2, ho2, hr⟩ := obj_run hr
    split at hr
    · obtain ⟨l, hl, hr⟩ := opt_run hr
      obtain ⟨rfl, rfl⟩ := castL_eq hl
      exact ⟨j, most, _, _, ho, ho2, hr⟩
    · cases hr
  · cases hr
def cSet : Con := fun args lo => match args with
  | [.ptr id 0, .agg [.v (.int .i64 a), .v (.int .i64 b)], .v (.int .i64 x)] => lnOwn id fun j m l => .br (!decide (m = 0) && len1000 l) (.br (sOkB l m a b)
      (.ret ⟨vi 0, [(id, .cells 52 [.all lo, vi m]), (j, .dead), (lo, .row 55 stH (insL l (findV l a) (a, b, x)))]⟩)
      (.ret ⟨vi (sErr l m a b), [(id, .cells 52 [.all j, vi m]), (j, .row 55 stH l)]⟩)) .fail
  | _ => .fail
theorem cSet_ok (B) : ConOk Try.prog B 11 cSet := by
  intro args ρ h w lo out ids hr hrh hfr hfa up
  unfold cSet at hr
  split at hr
  · rename_i id a b x
    obtain ⟨j, m, l, ids2, ho, hj, hr⟩ := lnOwn_run hr
    obtain ⟨hb, hr⟩ := br_run (h := h) hr
    rw [Bool.and_eq_true] at hb
    have hrun := set_run l m a b x (by simpa using hb.1) (Nat.le_of_ble_eq_true hb.2)
    obtain ⟨mm, hmm⟩ : ∃ mm : Nat → Nat, mm = fun i => if i = 0 then id else if i = 1 then j else lo + wide := ⟨_, rfl⟩
    have m0 : mm 0 = id := by rw [hmm]; rfl
    have m1 : mm 1 = j := by rw [hmm]; rfl
    have q0 : mr mm 2 lo 0 = id := m0
    have q1 : mr mm 2 lo 1 = j := m1
    have q2 : mr mm 2 lo 2 = lo := rfl
    rcases br_run2 (h := h) hr with ⟨hc, hr⟩ | ⟨hc, hr⟩
    · cases hr
      rw [hc, sel_t] at hrun
      have := ln_call Try.func11 (by kernel_rfl) rfl rfl hrun ⟨_, rfl, .inl rfl⟩ ⟨_, rfl, .inr rfl⟩ mm B ρ h w lo hrh hfr up ho hj m0 m1
      have e2 : ren (mr mm 2 lo) (vi 0) = vi 0 := rfl
      have e3 : ∀ R, updGo (mr mm 2 lo) [(0, .cells 52 [.all 2, vi m]), (1, .dead), (2, .row 55 stH R)] [(0, .cells 52 [.all 2, vi m]), (1, .dead), (2, .row 55 stH R)] = [(id, .cells 52 [.all lo, vi m]), (j, .dead), (lo, .row 55 stH R)] := by
        intro R
        show [(mr mm 2 lo 0, AObj.cells 52 [.all (mr mm 2 lo 2), vi m]), (mr mm 2 lo 1, _), (mr mm 2 lo 2, _)] = _
        rw [q0, q1, q2]; rfl
      rw [e2, e3] at this
      exact this
    · cases hr
      rw [hc, sel_f] at hrun
      have := ln_call Try.func11 (by kernel_rfl) rfl rfl hrun ⟨_, rfl, .inl rfl⟩ ⟨_, rfl, .inl rfl⟩ mm B ρ h w lo hrh hfr up ho hj m0 m1
      have e2 : ren (mr mm 2 lo) (vi (sErr l m a b)) = vi (sErr l m a b) := rfl
      have e3 : updGo (mr mm 2 lo) (hcL m l) (hcL m l) = [(id, .cells 52 [.all j, vi m]), (j, .row 55 stH l)] := by
        show [(mr mm 2 lo 0, AObj.cells 52 [.all (mr mm 2 lo 1), vi m]), (mr mm 2 lo 1, _)] = _
        rw [q0, q1]; rfl
      rw [e2, e3] at this
      exact this
  · cases hr
def cClone : Con := fun args lo => match args with
  | [.ptr id 0] => lnOwn id fun j m l => .br (lenOK l)
      (.ret ⟨.ptr lo 0, [(id, .cells 52 [.all j, vi m]), (j, .row 55 stH l), (lo, .cells 52 [.all (lo + 1), vi m]), (lo + 1, .row 55 stH l)]⟩) .fail
  | _ => .fail
theorem cClone_ok (B) : ConOk Try.prog B 14 cClone := by
  intro args ρ h w lo out ids hr hrh hfr hfa up
  unfold cClone at hr
  split at hr
  · rename_i id
    obtain ⟨j, m, l, ids2, ho, hj, hr⟩ := lnOwn_run hr
    obtain ⟨hb, hr⟩ := br_run (h := h) hr
    cases hr
    have hrun := clone_tree l m
    rw [hb, sel_t] at hrun
    obtain ⟨mm, hmm⟩ : ∃ mm : Nat → Nat, mm = fun i => if i = 0 then id else if i = 1 then j else lo + wide := ⟨_, rfl⟩
    have m0 : mm 0 = id := by rw [hmm]; rfl
    have m1 : mm 1 = j := by rw [hmm]; rfl
    have q0 : mr mm 2 lo 0 = id := m0
    have q1 : mr mm 2 lo 1 = j := m1
    have q2 : mr mm 2 lo 2 = lo := rfl
    have q3 : mr mm 2 lo 3 = lo + 1 := rfl
    have := ln_call Try.func14 (by kernel_rfl) rfl rfl hrun ⟨_, rfl, .inl rfl⟩ ⟨_, rfl, .inl rfl⟩ mm B ρ h w lo hrh hfr up ho hj m0 m1
    have e2 : ren (mr mm 2 lo) (.ptr 2 0) = .ptr lo 0 := by simp only [ren, q2]
    have e3 : updGo (mr mm 2 lo) [(0, .cells 52 [.all 1, vi m]), (1, .row 55 stH l), (2, .cells 52 [.all 3, vi m]), (3, .row 55 stH l)] [(0, .cells 52 [.all 1, vi m]), (1, .row 55 stH l), (2, .cells 52 [.all 3, vi m]), (3, .row 55 stH l)]
        = [(id, .cells 52 [.all j, vi m]), (j, .row 55 stH l), (lo, .cells 52 [.all (lo + 1), vi m]), (lo + 1, .row 55 stH l)] := by
      show [(mr mm 2 lo 0, AObj.cells 52 [.all (mr mm 2 lo 1), vi m]), (mr mm 2 lo 1, _), (mr mm 2 lo 2, AObj.cells 52 [.all (mr mm 2 lo 3), vi m]), (mr mm 2 lo 3, _)] = _
      rw [q0, q1, q2, q3]; rfl
    rw [e2, e3] at this
    exact this
  · cases hr
end Go.Proofs.Ytbmapmigiokbcaa.Ax
namespace Go.Proofs.Ytbmapmigiokbcaa.Ax
open Go Go.RowKit Go.Shelf Go.Proofs.Ytbmapmigiokbcaa.Print Go.Proofs.YtbmapmigiokbcaaW.PrintWords
set_option linter.unusedVariables false
set_option linter.unusedSimpArgs false
theorem toldP {f : FuncId} {fn : Func} {C : FuncId → Option Con} (hC : ∀ B' g φ, C g = some φ → ConOk Try.prog B' g φ) (hf : Try.prog.funcs[f]? = some fn) (hname : (fn.name == "runtime.NumGoroutine") = false) (hbody : fn.body.isSome = true) {lin lout : List Pc} (V : PT lin → Option (PT lout))
    (hV : ∀ x y, V x = some y → evX Try.prog C cn0 40 fn lin lout x = some y) (h1 : rowsP lout ≤ 1) (B : Nat → Prop) : ConOk Try.prog B f (conX lin lout V) :=
  conX_ok mixed hf hname hbody hC (fun B' w => cn0_ok B' w _) lin lout h1 (fun _ => 40) V hV B
def refMeetV (a b c d : Int) : Int × Int × Bool := bif !rightB a b then (0, 0, false) else bif !rightB c d then (0, 0, false) else bif decide (a > d) then (0, 0, false) else bif decide (c > b) then (0, 0, false) else (mx a c, mn b d, true)
theorem ref_meet (a b x c d y : Int) : octroiref13_Meet.f a b x c d y = some ((refMeetV a b c d).1, (refMeetV a b c d).2.1, 0, (refMeetV a b c d).2.2) := by
  unfold octroiref13_Meet.f refMeetV
  simp only [ref_right, Option.bind_some]
  cases rightB a b with
  | false => rfl
  | true =>
    cases rightB c d with
    | false => rfl
    | true =>
      simp only [if_true, Bool.not_true, cond_false]
      by_cases h1 : a > d
      · rw [if_pos h1, decide_eq_true h1]; rfl
      · rw [if_neg h1, decide_eq_false h1]
        by_cases h2 : c > b
        · rw [if_pos h2, decide_eq_true h2]; rfl
        · rw [if_neg h2, decide_eq_false h2]; rfl
def cRMeet : Con := fun args lo => match args with
  | [.agg [.v (.int .i64 a), .v (.int .i64 b), .v (.int .i64 x)], .agg [.v (.int .i64 c), .v (.int .i64 d), .v (.int .i64 y)]] => .ret ⟨.tup [.agg [vi (refMeetV a b c d).1, vi (refMeetV a b c d).2.1, vi 0], .v (.bool (refMeetV a b c d).2.2)], []⟩
  | _ => .fail
theorem cRMeet_ok (B) : ConOk Try.prog B 7 cRMeet := by
  intro args ρ h w lo out ids hr hrh hfr hfa up
  unfold cRMeet at hr
  split at hr
  · rename_i a b x c d y
    cases hr
    exact gives_same (s := .tup [.agg [vi (refMeetV a b c d).1, vi (refMeetV a b c d).2.1, vi 0], .v (.bool (refMeetV a b c d).2.2)]) (fn := Try.f7) Try.func7 (by kernel_rfl) (by kernel_rfl) hrh up (octroiref13_Meet.calls a b x c d y _ _ _ _ w (ref_meet a b x c d y))
  · cases hr
noncomputable def CT : FuncId → Option Con
  | 9 => some cNew
  | 11 => some cSet
  | 12 => some cAt
  | 13 => some cLen
  | 17 => some cGap
  | 14 => some cClone
  | 15 => some cLike
  | 6 => some cMeet
  | 7 => some cRMeet
  | 16 => some cRSet
  | 18 => some cRGap
  | _ => none
theorem CT_ok : ∀ B' g φ, CT g = some φ → ConOk Try.prog B' g φ := by
  intro B' g φ h
  unfold CT at h
  split at h <;> first | (cases h; done) | skip
  · cases h; exact cNew_ok B'
  · cases h; exact cSet_ok B'
  · cases h; exact cAt_ok B'
  · cases h; exact cLen_ok B'
  · cases h; exact cGap_ok B'
  · cases h; exact cClone_ok B'
  · cases h; exact cLike_ok B'
  · cases h; exact cMeet_ok B'
  · cases h; exact cRMeet_ok B'
  · cases h; exact cRSet_ok B'
  · cases h; exact cRGap_ok B'
abbrev qBool : Pc := .one .bool
abbrev qInt : Pc := .one (.int .i64)
abbrev qSpan : Pc := .agg [.int .i64, .int .i64]
theorem lives_tree : evX Try.prog CT cn0 40 Try.f8 [] [qBool] () = some (true, ()) := by kernel_rfl
noncomputable def cLives : Con := conX [] [qBool] fun _ => some (true, ())
theorem cLives_ok (B) : ConOk Try.prog B 8 cLives :=
  toldP (lin := []) (lout := [qBool]) CT_ok Try.func8 (by kernel_rfl) (by kernel_rfl) (fun _ => some (true, ())) (fun x y h => lives_tree.trans h) (by decide) B
noncomputable def CV : FuncId → Option Con
  | 8 => some cLives
  | g => CT g
theorem CV_ok : ∀ B' g φ, CV g = some φ → ConOk Try.prog B' g φ := by
  intro B' g φ h
  unfold CV at h
  split at h
  · cases h; exact cLives_ok B'
  · exact CT_ok B' _ φ h
end Go.Proofs.Ytbmapmigiokbcaa.Ax
namespace Go.Proofs.Ytbmapmigiokbcaa.Ax
open Go Go.RowKit Go.Shelf Go.Proofs.Ytbmapmigiokbcaa.Print Go.Proofs.YtbmapmigiokbcaaW.PrintWords
set_option linter.unusedVariables false
set_option linter.unusedSimpArgs false
abbrev Mx := Go.Proofs.YtbmapmigiokbcaaW.PrintWords.mx
abbrev Mn := Go.Proofs.YtbmapmigiokbcaaW.PrintWords.mn
abbrev OB := Option (Bool × Unit)
theorem mx_comm (a b : Int) : Mx a b = Mx b a := by unfold Mx Go.Proofs.YtbmapmigiokbcaaW.PrintWords.mx; split <;> split <;> omega
theorem mn_comm (a b : Int) : Mn a b = Mn b a := by unfold Mn Go.Proofs.YtbmapmigiokbcaaW.PrintWords.mn; split <;> split <;> omega
theorem right_iff (a b : Int) : rightB a b = true ↔ 0 ≤ a ∧ b ≤ 2932896 ∧ a ≤ b := by simp [rightB]
theorem meet_iff (a b c d : Int) : (rightB a b && (rightB c d && rightB (Mx a c) (Mn b d))) = (rightB a b && (rightB c d && (decide (c ≤ b) && decide (a ≤ d)))) := by
  cases h1 : rightB a b with
  | false => rfl
  | true =>
    cases h2 : rightB c d with
    | false => rfl
    | true =>
      rw [right_iff] at h1 h2
      have key : rightB (Mx a c) (Mn b d) = true ↔ c ≤ b ∧ a ≤ d := by
        rw [right_iff]
        unfold Mx Mn Go.Proofs.YtbmapmigiokbcaaW.PrintWords.mx Go.Proofs.YtbmapmigiokbcaaW.PrintWords.mn
        split <;> split <;> omega
      simp only [Bool.true_and]
      rw [Bool.eq_iff_iff, key]
      simp
theorem meetV_eq (a b c d : Int) : meetV a b c d = bif rightB a b && (rightB c d && (decide (c ≤ b) && decide (a ≤ d))) then (Mx a c, Mn b d, true) else (0, 0, false) := by
  unfold meetV; rw [meet_iff]
theorem meet_comm (a b c d : Int) : meetV a b c d = meetV c d a b := by
  rw [meetV_eq, meetV_eq, mx_comm a c, mn_comm b d]
  cases rightB a b <;> cases rightB c d <;> cases decide (c ≤ b) <;> cases decide (a ≤ d) <;> rfl
theorem meet_ref (a b c d : Int) : refMeetV a b c d = meetV a b c d := by
  rw [meetV_eq]
  unfold refMeetV
  by_cases h1 : a > d
  · have e1 : decide (a ≤ d) = false := decide_eq_false (by omega)
    rw [decide_eq_true h1, e1]
    cases rightB a b <;> cases rightB c d <;> cases decide (c ≤ b) <;> rfl
  · have e1 : decide (a ≤ d) = true := decide_eq_true (by omega)
    rw [decide_eq_false h1, e1]
    by_cases h2 : c > b
    · have e2 : decide (c ≤ b) = false := decide_eq_false (by omega)
      rw [decide_eq_true h2, e2]
      cases rightB a b <;> cases rightB c d <;> rfl
    · have e2 : decide (c ≤ b) = true := decide_eq_true (by omega)
      rw [decide_eq_false h2, e2]
      cases rightB a b <;> cases rightB c d <;> rfl
end Go.Proofs.Ytbmapmigiokbcaa.Ax
namespace Go.Proofs.Ytbmapmigiokbcaa.Print
open Go Go.RowKit Go.Proofs.YtbmapmigiokbcaaW.PrintWords Go.Proofs.Ytbmapmigiokbcaa.Ax
set_option linter.unusedVariables false
end Go.Proofs.Ytbmapmigiokbcaa.Print
namespace Go.Proofs.Ytbmapmigiokbcaa.Ax
open Go Go.RowKit Go.Shelf Go.Proofs.Ytbmapmigiokbcaa.Print Go.Proofs.YtbmapmigiokbcaaW.PrintWords
set_option linter.unusedVariables false
set_option linter.unusedSimpArgs false
def insA (l : List HV) (s : HV) : List HV := insL l (findV l s.1) s
def oT : OB := some (true, ())
def oF : OB := some (false, ())
end Go.Proofs.Ytbmapmigiokbcaa.Ax
namespace Go.Proofs.Ytbmapmigiokbcaa.Ax
open Go Go.RowKit Go.Shelf Go.Proofs.Ytbmapmigiokbcaa.Print Go.Proofs.YtbmapmigiokbcaaW.PrintWords
set_option linter.unusedVariables false
set_option linter.unusedSimpArgs false
theorem meet_not {a b c d : Int} (h : b < c) : (meetV a b c d).2.2 = false := by
  rw [meetV_eq, decide_eq_false (show ¬ c ≤ b by omega)]
  cases rightB a b <;> cases rightB c d <;> rfl
end Go.Proofs.Ytbmapmigiokbcaa.Ax
namespace Go.Proofs.Ytbmapmigiokbcaa.Print
open Go Go.RowKit Go.Proofs.YtbmapmigiokbcaaW.PrintWords Go.Proofs.Ytbmapmigiokbcaa.Ax
set_option linter.unusedVariables false
end Go.Proofs.Ytbmapmigiokbcaa.Print
namespace Go.Proofs.Ytbmapmigiokbcaa.Ax
open Go Go.RowKit Go.Shelf Go.Proofs.Ytbmapmigiokbcaa.Print Go.Proofs.YtbmapmigiokbcaaW.PrintWords
set_option linter.unusedVariables false
set_option linter.unusedSimpArgs false
abbrev qRow3 : Pc := .row 27 stH
def TTS : Nat → Option (List Nat × List (Nat × TypeId × List Sc))
  | 10 => some ([0, 5, 7, 8, 33, 34, 35], [(8, 27, stH)])
  | _ => none
def HTS (S : List HV) (a0 a1 m : Int) (Z W : List HV) (i : Int) : St :=
  ⟨[(0, vi m), (5, .ptr 1 0), (7, .ptr 2 0), (8, .all 3), (33, .all 0), (34, vi (S.length : Int)), (35, vi i)], [(0, .arg stH S), (1, .cells 23 [vi a0, vi a1]), (2, .cells 52 [.all 4, vi m]), (3, .row 27 stH W), (4, .row 55 stH Z)], 6⟩
noncomputable def LTS (F kk : Nat) (S : List HV) (a0 a1 m : Int) (Z W : List HV) (i : Int) : OB := loopAt (eff Try.prog CV) Try.f5.ntmps (cnRow 1 TTS) F Try.prog Try.f5 (KX [qBool]) [.R, .R, .R, .R, .R, .R, .L, .R, .D] kk (HTS S a0 a1 m Z W i)
noncomputable def rndB (R : List HV → List HV → OB) (a0 a1 m : Int) (s : HV) (e : Int) (Z W' : List HV) (f : Int) : OB :=
  sel (e != f) oF (sel (cdec (likeP m Z W' a0)) (sel (cdec (likeP m Z W' s.2.1)) (sel (!decide (m = 0) && lenOK Z) (sel (lenOK W') (obnd (rGapV W' a0 a1) fun n => sel (gapV (a0, a1) Z != n) oF (R Z W')) none) none) none) none)
noncomputable def rndA (R : List HV → List HV → OB) (a0 a1 m : Int) (s : HV) (Z0 W : List HV) (e : Int) (Z : List HV) : OB :=
  sel (cdec (likeP m Z0 W s.1)) (sel (len1000 W) (sel (rOkB W m s.1 s.2.1) (rndB R a0 a1 m s e Z (snoc W s) 0) (rndB R a0 a1 m s e Z W (rErr W m s.1 s.2.1))) none) none
noncomputable def rndS (R : List HV → List HV → OB) (a0 a1 m : Int) (s : HV) (Z W : List HV) : OB :=
  sel (lenOK Z) (sel (!decide (m = 0) && len1000 Z) (sel (sOkB Z m s.1 s.2.1) (rndA R a0 a1 m s Z W 0 (insA Z s)) (rndA R a0 a1 m s Z W (sErr Z m s.1 s.2.1) Z)) none) none
theorem LTS_eq (F kk : Nat) (S : List HV) (a0 a1 m : Int) (Z W : List HV) (i : Int) : LTS F (kk + 1) S a0 a1 m Z W i =
    sel (decide (i < (S.length : Int))) (idxP S i (rndS (fun Z W => LTS F kk S a0 a1 m Z W (IT.wrap (i + 1))) a0 a1 m (rAt S i) Z W)) oT := by kernel_rfl
end Go.Proofs.Ytbmapmigiokbcaa.Ax
namespace Go.Proofs.Ytbmapmigiokbcaa.Ax
open Go Go.RowKit Go.Shelf Go.Proofs.Ytbmapmigiokbcaa.Print Go.Proofs.YtbmapmigiokbcaaW.PrintWords
set_option linter.unusedVariables false
set_option linter.unusedSimpArgs false
theorem cdec_t {p : Prop} (h : p) : cdec p = true := cdec_true.2 h
theorem obnd_t {α β : Type} (x : α) (f : α → Option β) : obnd (some x) f = f x := rfl
structure SZ (zs : List HV) : Prop where
  pw : zs.Pairwise fun x y => x.2.1 < y.1
  rt : ∀ x ∈ zs, 0 ≤ x.1 ∧ x.2.1 ≤ 2932896 ∧ x.1 ≤ x.2.1
theorem bs_spec (zs : List HV) (h : SZ zs) (d : Int) : ∀ (f i j : Nat), i ≤ j → j ≤ zs.length → j - i ≤ f → (∀ x ∈ zs.take i, x.2.1 < d) → (∀ x ∈ zs.drop j, d ≤ x.2.1) →
    ∃ n, bsF f zs d i j = n ∧ n ≤ zs.length ∧ (∀ x ∈ zs.take n, x.2.1 < d) ∧ (∀ x ∈ zs.drop n, d ≤ x.2.1) := by
  intro f
  induction f with
  | zero =>
    intro i j h1 h2 h3 h4 h5
    have : i = j := by omega
    subst this
    exact ⟨i, rfl, h2, h4, h5⟩
  | succ f ih =>
    intro i j h1 h2 h3 h4 h5
    simp only [bsF]
    cases hb : Nat.blt i j with
    | false =>
      have : i = j := by
        have : ¬ i < j := fun hh => by rw [show Nat.blt i j = true from Nat.ble_eq_true_of_le hh] at hb; cases hb
        omega
      subst this
      exact ⟨i, rfl, h2, h4, h5⟩
    | true =>
      have hij : i + 1 ≤ j := Nat.le_of_ble_eq_true hb
      have hm : (i + j) / 2 < zs.length := by omega
      have hp := List.pairwise_iff_getElem.1 h.pw
      rw [List.getElem?_eq_getElem hm, Option.getD_some]
      by_cases hd : (zs[(i + j) / 2]).2.1 < d
      · rw [decide_eq_true hd]
        refine ih _ _ (by omega) h2 (by omega) ?_ h5
        intro x hx
        obtain ⟨k, hk, rfl⟩ := List.mem_iff_getElem.1 hx
        rw [List.length_take] at hk
        rw [List.getElem_take]
        by_cases he : k = (i + j) / 2
        · subst he; exact hd
        · have a := hp k ((i + j) / 2) (by omega) hm (by omega)
          have b := h.rt _ (List.getElem_mem hm)
          omega
      · rw [decide_eq_false hd]
        refine ih _ _ (by omega) (by omega) (by omega) h4 ?_
        intro x hx
        obtain ⟨k, hk, rfl⟩ := List.mem_iff_getElem.1 hx
        rw [List.length_drop] at hk
        rw [List.getElem_drop]
        by_cases he : k = 0
        · subst he; simp only [Nat.add_zero]; omega
        · have a := hp ((i + j) / 2) ((i + j) / 2 + k) hm (by omega) (by omega)
          have b := h.rt _ (List.getElem_mem (show (i + j) / 2 + k < zs.length by omega))
          omega
theorem find_split (zs : List HV) (h : SZ zs) (d : Int) : ∃ A B, zs = A ++ B ∧ findV zs d = A.length ∧ (∀ x ∈ A, x.2.1 < d) ∧ (∀ x ∈ B, d ≤ x.2.1) := by
  obtain ⟨n, h1, h2, h3, h4⟩ := bs_spec zs h d zs.length 0 zs.length (Nat.zero_le _) (Nat.le_refl _) (by omega) (by simp) (by simp)
  exact ⟨zs.take n, zs.drop n, (List.take_append_drop n zs).symm, by rw [List.length_take, Nat.min_eq_left h2]; exact h1, h3, h4⟩
theorem at_mid {α : Type} (A B : List α) : (A ++ B)[A.length]? = B.head? := by
  rw [List.getElem?_append_right (Nat.le_refl _), Nat.sub_self, List.head?_eq_getElem?]
theorem clash_no {a b : Int} {l : List HV} (h : ∀ x ∈ l, b < x.1 ∨ x.2.1 < a) : clashB a b l = false := by
  unfold clashB
  rw [List.any_eq_false]
  intro x hx
  have := h x hx
  simp only [Bool.and_eq_true, decide_eq_true_eq]
  omega
theorem hit_clash (zs : List HV) (h : SZ zs) (a b : Int) (hr : rightB a b = true) : hitB zs a b = clashB a b zs := by
  obtain ⟨A, B, rfl, hf, hA, hB⟩ := find_split zs h a
  unfold hitB
  rw [hf, at_mid]
  cases B with
  | nil => exact (clash_no fun x hx => .inr (hA x (by simpa using hx))).symm
  | cons x B =>
    have hx := h.rt x (by simp)
    have hxa := hB x (by simp)
    show (meetV x.1 x.2.1 a b).2.2 = _
    rw [meetV_eq, (right_iff _ _).2 ⟨hx.1, hx.2.1, hx.2.2⟩, hr, decide_eq_true hxa]
    have hp := List.pairwise_append.1 h.pw
    by_cases hb : x.1 ≤ b
    · rw [decide_eq_true hb]
      refine Eq.symm (show clashB a b (A ++ x :: B) = true from ?_)
      unfold clashB
      exact List.any_eq_true.2 ⟨x, by simp, by simp [hb, hxa]⟩
    · rw [decide_eq_false hb]
      refine (show clashB a b (A ++ x :: B) = false from clash_no fun y hy => ?_).symm
      rcases List.mem_append.1 hy with hy | hy
      · exact .inr (hA y hy)
      · rcases List.mem_cons.1 hy with rfl | hy
        · exact .inl (by omega)
        · have := (List.pairwise_cons.1 hp.2.1).1 y hy
          exact .inl (by omega)
structure Inv (Z W : List HV) : Prop where
  sz : SZ Z
  pm : Z.Perm W
theorem Inv.clash {Z W : List HV} (h : Inv Z W) (a b : Int) : clashB a b Z = clashB a b W := h.pm.any_eq
theorem Inv.ok {Z W : List HV} (h : Inv Z W) (m a b : Int) : sOkB Z m a b = rOkB W m a b := by
  unfold sOkB rOkB
  cases hr : rightB a b with
  | false => rfl
  | true => rw [hit_clash Z h.sz a b hr, h.clash, h.pm.length_eq]
theorem Inv.err {Z W : List HV} (h : Inv Z W) (m a b : Int) : sErr Z m a b = rErr W m a b := by
  unfold sErr rErr
  cases hr : rightB a b with
  | false => rfl
  | true => rw [hit_clash Z h.sz a b hr, h.clash]
theorem Inv.put {Z W : List HV} (h : Inv Z W) {m : Int} {s : HV} (hok : rOkB W m s.1 s.2.1 = true) : Inv (insA Z s) (snoc W s) := by
  have hr : rightB s.1 s.2.1 = true := by unfold rOkB at hok; revert hok; cases rightB s.1 s.2.1 <;> simp
  have hc : clashB s.1 s.2.1 Z = false := by
    rw [h.clash]; unfold rOkB at hok; revert hok; cases clashB s.1 s.2.1 W <;> simp
  have hi := (right_iff _ _).1 hr
  obtain ⟨A, B, rfl, hf, hA, hB⟩ := find_split Z h.sz s.1
  have hins : insA (A ++ B) s = A ++ s :: B := by
    unfold insA insL
    rw [hf, List.take_left' rfl, List.drop_left' rfl]
  rw [hins]
  have hp := List.pairwise_append.1 h.sz.pw
  have hB' : ∀ x ∈ B, s.2.1 < x.1 := by
    intro x hx
    unfold clashB at hc
    rw [List.any_eq_false] at hc
    have := hc x (by simp [hx])
    have h2 := hB x hx
    simp only [Bool.and_eq_true, decide_eq_true_eq] at this
    omega
  refine ⟨⟨List.pairwise_append.2 ⟨hp.1, List.pairwise_cons.2 ⟨hB', hp.2.1⟩, ?_⟩, ?_⟩, ?_⟩
  · intro x hx y hy
    rcases List.mem_cons.1 hy with rfl | hy
    · exact hA x hx
    · exact hp.2.2 x hx y hy
  · intro x hx
    rcases List.mem_append.1 hx with hx | hx
    · exact h.sz.rt x (List.mem_append_left _ hx)
    · rcases List.mem_cons.1 hx with rfl | hx
      · exact hi
      · exact h.sz.rt x (List.mem_append_right _ hx)
  · exact List.perm_middle.trans ((h.pm.cons s).trans (List.perm_append_singleton s W).symm)
theorem at_has (zs : List HV) (h : SZ zs) (d : Int) (x : HV) (hx : x ∈ zs) (h1 : x.1 ≤ d) (h2 : d ≤ x.2.1) : atV zs d = (x.2.2, true) := by
  obtain ⟨A, B, rfl, hf, hA, hB⟩ := find_split zs h d
  have hp := List.pairwise_append.1 h.pw
  unfold atV
  rw [hf, at_mid]
  rcases List.mem_append.1 hx with hx | hx
  · have := hA x hx; omega
  · cases B with
    | nil => cases hx
    | cons y B =>
      rcases List.mem_cons.1 hx with rfl | hx
      · show (bif decide (d < x.1) then _ else _) = _
        rw [decide_eq_false (by omega)]; rfl
      · have a := (List.pairwise_cons.1 hp.2.1).1 x hx
        have b := hB y (by simp)
        omega
theorem at_none (zs : List HV) (h : SZ zs) (d : Int) (hn : ∀ x ∈ zs, ¬ (x.1 ≤ d ∧ d ≤ x.2.1)) : atV zs d = (0, false) := by
  obtain ⟨A, B, rfl, hf, hA, hB⟩ := find_split zs h d
  unfold atV
  rw [hf, at_mid]
  cases B with
  | nil => rfl
  | cons y B =>
    have a := hn y (by simp)
    have b := hB y (by simp)
    show (bif decide (d < y.1) then _ else _) = _
    rw [decide_eq_true (by omega)]; rfl
theorem rd_s27 (W : List HV) (i : Nat) (hi : i < W.length) : rd_T27 (W.map s27) i = s27 W[i] := by
  unfold rd_T27
  simp [List.getD, hi]
theorem wrap64_i (n : Nat) (h : n ≤ 1000000) : wrap64 (((n : Nat) : Int) + 1) = ((n + 1 : Nat) : Int) := by
  unfold wrap64; omega
theorem at_ref (W : List HV) (d : Int) (hl : W.length ≤ 1000) : ∀ (r i : Nat), i + r = W.length → (∀ x ∈ W.take i, ¬ (x.1 ≤ d ∧ d ≤ x.2.1)) →
    ∃ y, octroiref13_At.l0 (r + 1) (W.map s27) d i = some y ∧ ((∃ x ∈ W, (x.1 ≤ d ∧ d ≤ x.2.1) ∧ y = (x.2.2, true)) ∨ ((∀ x ∈ W, ¬ (x.1 ≤ d ∧ d ≤ x.2.1)) ∧ y = (0, false))) := by
  intro r
  induction r with
  | zero =>
    intro i hi hn
    refine ⟨(0, false), ?_, .inr ⟨?_, rfl⟩⟩
    · unfold octroiref13_At.l0
      rw [if_neg (by simp; omega)]
    · rw [List.take_of_length_le (by omega)] at hn; exact hn
  | succ r ih =>
    intro i hi hn
    have hlt : i < W.length := by omega
    unfold octroiref13_At.l0
    rw [if_pos (by simp; omega), if_pos (by omega), rd_s27 W i hlt, wrap64_i i (by omega)]
    by_cases h1 : W[i].1 ≤ d
    · by_cases h2 : d ≤ W[i].2.1
      · rw [if_pos (show d ≥ (s27 W[i]).f0 from h1), if_pos (show d ≤ (s27 W[i]).f1 from h2)]
        exact ⟨_, rfl, .inl ⟨W[i], List.getElem_mem hlt, ⟨h1, h2⟩, rfl⟩⟩
      · rw [if_pos (show d ≥ (s27 W[i]).f0 from h1), if_neg (show ¬ d ≤ (s27 W[i]).f1 from h2)]
        refine ih (i + 1) (by omega) ?_
        intro x hx
        rw [List.take_succ_eq_append_getElem hlt] at hx
        rcases List.mem_append.1 hx with hx | hx
        · exact hn x hx
        · rw [List.mem_singleton.1 hx]; omega
    · rw [if_neg (show ¬ d ≥ (s27 W[i]).f0 from h1)]
      refine ih (i + 1) (by omega) ?_
      intro x hx
      rw [List.take_succ_eq_append_getElem hlt] at hx
      rcases List.mem_append.1 hx with hx | hx
      · exact hn x hx
      · rw [List.mem_singleton.1 hx]; omega
theorem Inv.at {Z W : List HV} (h : Inv Z W) (hl : W.length ≤ 1000) (d : Int) : octroiref13_At.f (W.length + 1) (W.map s27) d = some (atV Z d) := by
  obtain ⟨y, h1, h2⟩ := at_ref W d hl W.length 0 (by omega) (by simp)
  refine h1.trans ?_
  rcases h2 with ⟨x, hx, hd, rfl⟩ | ⟨hn, rfl⟩
  · rw [at_has Z h.sz d x (h.pm.mem_iff.2 hx) hd.1 hd.2]
  · rw [at_none Z h.sz d fun x hx => hn x (h.pm.mem_iff.1 hx)]
end Go.Proofs.Ytbmapmigiokbcaa.Ax
namespace Go.Proofs.Ytbmapmigiokbcaa.Ax
open Go Go.RowKit Go.Shelf Go.Proofs.Ytbmapmigiokbcaa.Print Go.Proofs.YtbmapmigiokbcaaW.PrintWords
set_option linter.unusedVariables false
set_option linter.unusedSimpArgs false
def BestI (W : List HV) (last : Int) (i : Nat) (best : Int) : Prop :=
  (best = -1 ∧ ∀ y ∈ W.take i, ¬ last < y.1) ∨ ∃ b : Nat, best = b ∧ ∃ hb : b < W.length, last < (W[b]).1 ∧ ∀ y ∈ W.take i, last < y.1 → (W[b]).1 ≤ y.1
theorem best_run (W : List HV) (hl : W.length ≤ 1000) (out : List S27) (ho : out.length ≤ 1000) (last : Int) (x : HV) (hx : x ∈ W) (hxl : last < x.1) (hmin : ∀ y ∈ W, last < y.1 → x.1 ≤ y.1) (huniq : ∀ y ∈ W, y.1 = x.1 → y = x) (k : Nat) :
    ∀ (r i : Nat) (best : Int), i + r = W.length → BestI W last i best → octroiref13_Sorted.l1 (r + 1 + k) (W.map s27) out last best i = octroiref13_Sorted.l0 k (W.map s27) (out ++ [s27 x]) x.1 := by
  intro r
  induction r with
  | zero =>
    intro i best hi hb
    have hk : 0 + 1 + k = k + 1 := by omega
    rw [hk]
    conv => lhs; unfold octroiref13_Sorted.l1
    rw [if_neg (by simp; omega)]
    have htk : W.take i = W := List.take_of_length_le (by omega)
    unfold BestI at hb
    rw [htk] at hb
    rcases hb with ⟨rfl, hn⟩ | ⟨b, rfl, hb, h1, h2⟩
    · exact absurd hxl (hn x hx)
    · have he : W[b] = x := by
        have a := h2 x hx hxl
        have b' := hmin _ (List.getElem_mem hb) h1
        exact huniq _ (List.getElem_mem hb) (by omega)
      rw [if_pos (by omega), if_pos (by simp; omega), if_pos (by omega), rd_s27 W b hb, he]
      rfl
  | succ r ih =>
    intro i best hi hb
    have hlt : i < W.length := by omega
    rw [show r + 1 + 1 + k = (r + 1 + k) + 1 by omega]
    conv => lhs; unfold octroiref13_Sorted.l1
    rw [if_pos (by simp; omega), if_pos (by omega), rd_s27 W i hlt, wrap64_i i (by omega)]
    by_cases h1 : last < (W[i]).1
    · rw [if_pos (show (s27 W[i]).f0 > last from h1)]
      rcases hb with ⟨rfl, hn⟩ | ⟨b, rfl, hb, h2, h3⟩
      · rw [if_pos (by omega)]
        refine ih (i + 1) _ (by omega) (.inr ⟨i, rfl, hlt, h1, fun y hy hly => ?_⟩)
        rw [List.take_succ_eq_append_getElem hlt] at hy
        rcases List.mem_append.1 hy with hy | hy
        · exact absurd hly (hn y hy)
        · rw [List.mem_singleton.1 hy]; exact Int.le_refl _
      · rw [if_neg (by omega), if_pos (by omega), if_pos (by simp; omega), rd_s27 W b hb]
        by_cases h4 : (W[i]).1 < (W[b]).1
        · rw [if_pos (show (s27 W[i]).f0 < (s27 W[b]).f0 from h4)]
          refine ih (i + 1) _ (by omega) (.inr ⟨i, rfl, hlt, h1, fun y hy hly => ?_⟩)
          rw [List.take_succ_eq_append_getElem hlt] at hy
          rcases List.mem_append.1 hy with hy | hy
          · have := h3 y hy hly; omega
          · rw [List.mem_singleton.1 hy]; exact Int.le_refl _
        · rw [if_neg (show ¬ (s27 W[i]).f0 < (s27 W[b]).f0 from h4)]
          refine ih (i + 1) _ (by omega) (.inr ⟨b, rfl, hb, h2, fun y hy hly => ?_⟩)
          rw [List.take_succ_eq_append_getElem hlt] at hy
          rcases List.mem_append.1 hy with hy | hy
          · exact h3 y hy hly
          · rw [List.mem_singleton.1 hy]; omega
    · rw [if_neg (show ¬ (s27 W[i]).f0 > last from h1)]
      refine ih (i + 1) _ (by omega) ?_
      rcases hb with ⟨rfl, hn⟩ | ⟨b, rfl, hb, h2, h3⟩
      · refine .inl ⟨rfl, fun y hy => ?_⟩
        rw [List.take_succ_eq_append_getElem hlt] at hy
        rcases List.mem_append.1 hy with hy | hy
        · exact hn y hy
        · rw [List.mem_singleton.1 hy]; exact h1
      · refine .inr ⟨b, rfl, hb, h2, fun y hy hly => ?_⟩
        rw [List.take_succ_eq_append_getElem hlt] at hy
        rcases List.mem_append.1 hy with hy | hy
        · exact h3 y hy hly
        · rw [List.mem_singleton.1 hy] at hly; exact absurd hly h1
theorem sort_run (Z W : List HV) (h : Inv Z W) (hl : W.length ≤ 1000) : ∀ (B A : List HV) (last : Int), A ++ B = Z → (∀ y ∈ A, y.1 ≤ last) → (∀ y ∈ B, last < y.1) →
    ∃ k, octroiref13_Sorted.l0 k (W.map s27) (A.map s27) last = some (Z.map s27) := by
  intro B
  induction B with
  | nil =>
    intro A last hZ hA hB
    rw [List.append_nil] at hZ
    subst hZ
    refine ⟨1, ?_⟩
    unfold octroiref13_Sorted.l0
    rw [if_neg (by have := h.pm.length_eq; simp; omega)]
  | cons x B ih =>
    intro A last hZ hA hB
    have hp := List.pairwise_append.1 (hZ ▸ h.sz.pw)
    have hpx := List.pairwise_cons.1 hp.2.1
    have hrt := fun y hy => h.sz.rt y (hZ ▸ hy)
    have hxx := hrt x (by simp)
    obtain ⟨k, hk⟩ := ih (A ++ [x]) x.1 (by rw [← hZ]; simp) (by
      intro y hy
      rcases List.mem_append.1 hy with hy | hy
      · have := hA y hy; have := hB x (by simp); omega
      · rw [List.mem_singleton.1 hy]; exact Int.le_refl _) (by
      intro y hy
      have := hpx.1 y hy; omega)
    have hZl : Z.length = W.length := h.pm.length_eq
    have hlen : A.length + (B.length + 1) = W.length := by rw [← hZl, ← hZ]; simp
    refine ⟨(W.length + 1 + k) + 1, ?_⟩
    unfold octroiref13_Sorted.l0
    rw [if_pos (by simp; omega)]
    have hmem : ∀ y ∈ W, y ∈ A ∨ y = x ∨ y ∈ B := by
      intro y hy
      have : y ∈ A ++ x :: B := hZ ▸ h.pm.mem_iff.2 hy
      simpa using this
    refine (best_run W hl (A.map s27) (by simp; omega) last x (h.pm.mem_iff.1 (hZ ▸ (by simp))) (hB x (by simp)) ?_ ?_ k W.length 0 (-1) (by omega) (.inl ⟨rfl, by simp⟩)).trans ?_
    · intro y hy hly
      rcases hmem y hy with hy | rfl | hy
      · have := hA y hy; omega
      · exact Int.le_refl _
      · have := hpx.1 y hy; omega
    · intro y hy he
      rcases hmem y hy with hy | rfl | hy
      · have := hA y hy; have := hB x (by simp); omega
      · rfl
      · have := hpx.1 y hy; omega
    · rw [← List.map_singleton, ← List.map_append]; exact hk
theorem Inv.sorted {Z W : List HV} (h : Inv Z W) (hl : W.length ≤ 1000) : ∃ k, octroiref13_Sorted.f k (W.map s27) = some (Z.map s27) :=
  sort_run Z W h hl Z [] (-1) rfl (by simp) fun y hy => by have := h.sz.rt y hy; omega
theorem tr_s27 (Z : List HV) : (Z.map s27).map tr27 = Z := by
  rw [List.map_map]
  exact (List.map_congr_left fun x _ => rfl).trans (List.map_id Z)
theorem Inv.like {Z W : List HV} (h : Inv Z W) (hl : W.length ≤ 1000) {m : Int} (hm : m ≠ 0) (d : Int) : likeP m Z W d := by
  obtain ⟨k, hk⟩ := h.sorted hl
  have := h.pm.length_eq
  exact ⟨hm, by omega, by omega, k, _, _, hk, tr_s27 Z, h.at hl d⟩
theorem gap_comm (s : Int × Int) (n : Int) (x y : HV) : gapStep s (gapStep s n x) y = gapStep s (gapStep s n y) x := by
  unfold gapStep
  generalize daysV (meetV x.1 x.2.1 s.1 s.2).1 (meetV x.1 x.2.1 s.1 s.2).2.1 = p
  generalize daysV (meetV y.1 y.2.1 s.1 s.2).1 (meetV y.1 y.2.1 s.1 s.2).2.1 = q
  cases (meetV x.1 x.2.1 s.1 s.2).2.2 <;> cases (meetV y.1 y.2.1 s.1 s.2).2.2 <;> simp only [cond_true, cond_false]
  unfold wrap64
  omega
theorem gap_perm (s : Int × Int) {Z W : List HV} (h : Z.Perm W) (n : Int) : Z.foldl (gapStep s) n = W.foldl (gapStep s) n :=
  h.foldl_eq' (fun x _ y _ z => gap_comm s z x y) n
theorem gap_ref (W : List HV) (a b : Int) (hr : rightB a b = true) (hl : W.length ≤ 1000) : ∀ (r i : Nat) (n : Int), i + r = W.length →
    octroiref13_Gap.l0 (r + 1) (W.map s27) a b n i = some ((W.drop i).foldl (gapStep (a, b)) n) := by
  intro r
  induction r with
  | zero =>
    intro i n hi
    unfold octroiref13_Gap.l0
    rw [if_neg (by simp; omega), List.drop_eq_nil_of_le (by omega)]
    rfl
  | succ r ih =>
    intro i n hi
    have hlt : i < W.length := by omega
    unfold octroiref13_Gap.l0
    rw [if_pos (by simp; omega), if_pos (by omega), rd_s27 W i hlt, wrap64_i i (by omega), ref_meet, meet_ref, List.drop_eq_getElem_cons hlt, List.foldl_cons]
    show (if (meetV W[i].1 W[i].2.1 a b).2.2 = true then _ else _) = _
    by_cases hm : (meetV W[i].1 W[i].2.1 a b).2.2 = true
    · rw [if_pos hm, ih (i + 1) _ (by omega)]
      unfold gapStep
      rw [hm]
      rfl
    · rw [if_neg hm, ih (i + 1) _ (by omega)]
      conv => rhs; rw [show gapStep (a, b) n W[i] = n by unfold gapStep; rw [Bool.not_eq_true] at hm; rw [hm]; rfl]
theorem gap_skip (s : Int × Int) (l : List HV) (n : Int) (h : ∀ x ∈ l, (meetV x.1 x.2.1 s.1 s.2).2.2 = false) : l.foldl (gapStep s) n = n := by
  induction l with
  | nil => rfl
  | cons x l ih =>
    rw [List.foldl_cons, show gapStep s n x = n by unfold gapStep; rw [h x (by simp)]; rfl]
    exact ih fun y hy => h y (by simp [hy])
theorem gap_self (Z : List HV) (h : SZ Z) (a b : Int) (hr : rightB a b = true) (hs : Z.any (sameS (a, b)) = true) : Z.foldl (gapStep (a, b)) (daysV a b) = 0 := by
  obtain ⟨x, hx, he⟩ := List.any_eq_true.1 hs
  obtain ⟨A, B, rfl⟩ := List.append_of_mem hx
  have hp := List.pairwise_append.1 h.pw
  unfold sameS at he
  simp only [Bool.and_eq_true, beq_iff_eq] at he
  obtain ⟨h1, h2⟩ := he
  have h1 : x.1 = a := h1
  have h2 : x.2.1 = b := h2
  have hno : ∀ y : HV, (y.2.1 < a ∨ b < y.1) → (meetV y.1 y.2.1 a b).2.2 = false := by
    intro y hy
    rcases hy with hy | hy
    · exact meet_not hy
    · rw [meet_comm]; exact meet_not hy
  rw [List.foldl_append, List.foldl_cons, gap_skip _ A _ fun y hy => hno y (.inl (by have := hp.2.2 y hy x (by simp); omega))]
  rw [gap_skip _ B _ fun y hy => hno y (.inr (by have := (List.pairwise_cons.1 hp.2.1).1 y hy; omega))]
  have hxx := h.rt x (by simp)
  unfold gapStep
  rw [h1, h2, meetV_eq, hr, decide_eq_true (show a ≤ b by omega)]
  show wrap64 (daysV a b - daysV (Mx a a) (Mn b b)) = 0
  rw [show Mx a a = a by unfold Mx Go.Proofs.YtbmapmigiokbcaaW.PrintWords.mx; split <;> rfl, show Mn b b = b by unfold Mn Go.Proofs.YtbmapmigiokbcaaW.PrintWords.mn; split <;> rfl, Int.sub_self]
  unfold wrap64
  omega
theorem gap_det {W : List S27} {a b n m : Int} {k j : Nat} (h1 : octroiref13_Gap.f k W a b = some n) (h2 : octroiref13_Gap.f j W a b = some m) : n = m := by
  have up : ∀ d k (r : Int), octroiref13_Gap.f k W a b = some r → octroiref13_Gap.f (k + d) W a b = some r := by
    intro d
    induction d with
    | zero => intro k r h; exact h
    | succ d ih => intro k r h; exact octroiref13_Gap.mono _ _ _ _ _ (ih k r h)
  have a1 := up j k n h1
  have a2 := up k j m h2
  rw [Nat.add_comm] at a2
  exact Option.some.inj (a1.symm.trans a2)
theorem Inv.gapf {Z W : List HV} (h : Inv Z W) (hl : W.length ≤ 1000) (a b : Int) : octroiref13_Gap.f (W.length + 1) (W.map s27) a b = some (gapV (a, b) Z) := by
  unfold octroiref13_Gap.f gapV
  rw [ref_right]
  show (if rightB a b = true then _ else _) = some (bif rightB a b then _ else _)
  cases hr : rightB a b with
  | false => rfl
  | true =>
    rw [if_pos rfl]
    refine (gap_ref W a b hr hl W.length 0 _ (by omega)).trans ?_
    rw [List.drop_zero, cond_true, ← gap_perm (a, b) h.pm]
    cases hs : Z.any (sameS (a, b)) with
    | true => exact congrArg some (gap_self Z h.sz a b hr hs)
    | false => rfl
theorem Inv.gap {Z W : List HV} (h : Inv Z W) (hl : W.length ≤ 1000) (a b : Int) : rGapV W a b = some (gapV (a, b) Z) := by
  have hf := h.gapf hl a b
  cases hg : rGapV W a b with
  | some n =>
    obtain ⟨k, hk⟩ := rGapV_some hg
    rw [gap_det hk hf]
  | none =>
    unfold rGapV at hg
    rw [dif_pos ⟨_, _, hf⟩] at hg
    cases hg
end Go.Proofs.Ytbmapmigiokbcaa.Ax
namespace Go.Proofs.Ytbmapmigiokbcaa.Ax
open Go Go.RowKit Go.Shelf Go.Proofs.Ytbmapmigiokbcaa.Print Go.Proofs.YtbmapmigiokbcaaW.PrintWords
set_option linter.unusedVariables false
set_option linter.unusedSimpArgs false
theorem sets_head (F f5 : Nat) (hf : f5 = F) (m : Int) (S : List HV) (a0 a1 : Int) : evX Try.prog CV (cnRow 1 TTS) F Try.f5 [qInt, qRow3, qSpan] [qBool] (m, S, (a0, a1), ()) =
    sel (decide ((60 : Int) < (S.length : Int))) oT (sel (newOK m) (sel (decide (m < 1)) oF (sel (decide ((256 : Int) < m)) oF (LTS F F S a0 a1 m [] [] 0))) (sel (decide (m < 1)) oT (sel (decide ((256 : Int) < m)) oT oF))) := by kernel_rfl
theorem ne_me {α : Type} [BEq α] [LawfulBEq α] (x : α) : (x != x) = false := by simp
theorem rndB_ok (R : List HV → List HV → OB) (a0 a1 m : Int) (hm : m ≠ 0) (s : HV) (e : Int) {Z W : List HV} (h : Inv Z W) (hl : W.length ≤ 1000) : rndB R a0 a1 m s e Z W e = R Z W := by
  have hz := h.pm.length_eq
  unfold rndB
  rw [ne_me, sel_f, cdec_t (h.like hl hm a0), sel_t, cdec_t (h.like hl hm s.2.1), sel_t, decide_eq_false hm, show lenOK Z = true from Nat.ble_eq_true_of_le (by omega), show lenOK W = true from Nat.ble_eq_true_of_le (by omega), h.gap hl, obnd_t, ne_me]
  rfl
theorem rnd_ok (R : List HV → List HV → OB) (a0 a1 m : Int) (hm : m ≠ 0) (s : HV) {Z W : List HV} (h : Inv Z W) (hl : W.length ≤ 999) : ∃ Z' W', Inv Z' W' ∧ W'.length ≤ W.length + 1 ∧ rndS R a0 a1 m s Z W = R Z' W' := by
  have hz := h.pm.length_eq
  have l1 : lenOK Z = true := Nat.ble_eq_true_of_le (by omega)
  have l2 : len1000 Z = true := Nat.ble_eq_true_of_le (by omega)
  have l3 : len1000 W = true := Nat.ble_eq_true_of_le (by omega)
  unfold rndS rndA
  rw [l1, l2, l3, decide_eq_false hm, h.ok, h.err, cdec_t (h.like (by omega) hm s.1)]
  simp only [Bool.not_false, Bool.and_self, sel_t]
  cases hok : rOkB W m s.1 s.2.1 with
  | true =>
    rw [sel_t, sel_t]
    have hp := h.put hok
    have hlen : (snoc W s).length = W.length + 1 := by simp
    exact ⟨_, _, hp, by omega, rndB_ok R a0 a1 m hm s 0 hp (by omega)⟩
  | false =>
    rw [sel_f, sel_f]
    exact ⟨_, _, h, by omega, rndB_ok R a0 a1 m hm s _ h (by omega)⟩
theorem sets_run (F : Nat) (S : List HV) (a0 a1 m : Int) (hm : m ≠ 0) (hl : S.length ≤ 60) : ∀ (n i kk : Nat) (Z W : List HV), i + n = S.length → n < kk → Inv Z W → W.length ≤ i → LTS F kk S a0 a1 m Z W i = oT := by
  intro n
  induction n with
  | zero =>
    intro i kk Z W hi hk hI hW
    obtain ⟨k, rfl⟩ : ∃ k, kk = k + 1 := ⟨kk - 1, by omega⟩
    rw [LTS_eq, decide_eq_false (by omega), sel_f]
  | succ n ih =>
    intro i kk Z W hi hk hI hW
    obtain ⟨k, rfl⟩ : ∃ k, kk = k + 1 := ⟨kk - 1, by omega⟩
    have hlt : i < S.length := by omega
    obtain ⟨Z', W', h1, h2, h3⟩ := rnd_ok (fun Z W => LTS F k S a0 a1 m Z W (IT.wrap ((i : Int) + 1))) a0 a1 m hm (rAt S i) hI (by omega)
    rw [LTS_eq, decide_eq_true (by omega), sel_t, idxP_at S i hlt, h3, wrap_i i (by omega)]
    exact ih (i + 1) k Z' W' (by omega) (by omega) h1 (by omega)
theorem sets_ev (F : Nat) (hF : F = 100) (m : Int) (S : List HV) (a0 a1 : Int) : evX Try.prog CV (cnRow 1 TTS) F Try.f5 [qInt, qRow3, qSpan] [qBool] (m, S, (a0, a1), ()) = oT := by
  rw [sets_head F F rfl]
  by_cases h1 : (60 : Int) < (S.length : Int)
  · rw [decide_eq_true h1, sel_t]
  · rw [decide_eq_false h1, sel_f]
    unfold newOK
    by_cases h2 : m < 1
    · rw [decide_eq_true h2, decide_eq_false (show ¬ 1 ≤ m by omega)]; rfl
    · rw [decide_eq_false h2, decide_eq_true (show 1 ≤ m by omega)]
      by_cases h3 : 256 < m
      · rw [decide_eq_true h3, decide_eq_false (show ¬ m ≤ 256 by omega)]; rfl
      · rw [decide_eq_false h3, decide_eq_true (show m ≤ 256 by omega)]
        simp only [Bool.and_self, sel_t, sel_f]
        exact sets_run F S a0 a1 m (by omega) (by omega) S.length 0 F [] [] (by omega) (by omega) ⟨⟨List.Pairwise.nil, by simp⟩, List.Perm.refl _⟩ (by simp)
end Go.Proofs.Ytbmapmigiokbcaa.Ax
namespace Go.Proofs.Ytbmapmigiokbcaa.Print
open Go Go.RowKit Go.Proofs.YtbmapmigiokbcaaW.PrintWords Go.Proofs.Ytbmapmigiokbcaa.Ax
set_option linter.unusedVariables false
theorem s27_enc : ∀ (w : World) (x : S27) (c : List Value), k27.K w x c → c = enc stH (tr27 x) := by
  intro w x c h
  rw [k27_open h]; rfl
def octroilaw13_TimelineSets.f (a0 : Int) (l1 : List S27) (a b : Int) : Option Bool := some true
theorem octroilaw13_TimelineSets.calls (a0 : Int) (A1 : Option Addr) (c1 : Nat) (l1 : List S27) (a b : Int) (r : Bool) (w : World) (hr1 : Kd.C k27 w A1 l1.length l1) (hc1 : l1.length ≤ c1) (h : octroilaw13_TimelineSets.f a0 l1 a b = some r) :
    Calls Try.prog 5 #[.int .i64 a0, .slice A1 l1.length c1, .agg #[.int .i64 a, .int .i64 b]] w fun e w' => e = .returned (.bool r) ∧ Below w.heap.size w w' := by
  obtain rfl : true = r := Option.some.inj h
  obtain ⟨L, h1, h2⟩ := row_of_C s27_enc rfl (by decide) hr1 hc1
  have := calls_of_X mixed Try.func5 CV_ok (fun B' w => cnRow_ok) (sets_ev 100 rfl a0 (l1.map tr27) a b) (fun _ => L) w (fun j o hj => by
    obtain ⟨rfl, rfl⟩ := look_one hj
    exact ⟨Nat.le_refl _, by decide, rfl, rfl, h2 _⟩)
  have hargs : (denL (fun _ => L) (encA [qInt, qRow3, qSpan] (a0, l1.map tr27, (a, b), ()) 0)).toArray = #[.int .i64 a0, .slice A1 l1.length c1, .agg #[.int .i64 a, .int .i64 b]] := by
    have h3 := h1 (fun _ => L) 0 rfl
    show (#[_, den (fun _ => L) (.all 0), _] : Array Value) = _
    rw [h3]; rfl
  exact cast (congrArg (fun z => Calls Try.prog 5 z w fun e w' => e = .returned (.bool true) ∧ Below w.heap.size w w') hargs) this
end Go.Proofs.Ytbmapmigiokbcaa.Print
namespace Go.Proofs.Ytbmapmigiokbcaa.Print
open Go.RowKit Go.Proofs.YtbmapmigiokbcaaW.PrintWords Go.Proofs.YtbmapmigiokbcaaW.PrintLast
def octroilaw13_TimelineSets.Pure : Prop := ∀ (a0 : Int) (l1 : List (S27)) (a2_0 : Int) (a2_1 : Int), (Lit.int .i64 a0).wf = true → l1.length ≤ maxLen → l1.length * 24 ≤ 140737488351232 → (∀ x ∈ l1, ((Lit.int .i64 x.f0).wf = true ∧ ((Lit.int .i64 x.f1).wf = true ∧ (Lit.int .i64 x.f2).wf = true))) → (Lit.int .i64 a2_0).wf = true → (Lit.int .i64 a2_1).wf = true → octroilaw13_TimelineSets.f a0 l1 a2_0 a2_1 = some true
end Go.Proofs.Ytbmapmigiokbcaa.Print
namespace Go.Proofs.Ytbmapmigiokbcaa.Pure
open Go.RowKit Go.Proofs.Ytbmapmigiokbcaa.Print
theorem TimelineSets : octroilaw13_TimelineSets.Pure := by
  unfold octroilaw13_TimelineSets.Pure
  intros; rfl
end Go.Proofs.Ytbmapmigiokbcaa.Pure
namespace Go.Proofs.Ytbmapmigiokbcaa.Ax
open Go Go.RowKit
set_option linter.unusedVariables false
set_option linter.unusedSimpArgs false
def takeRow (ty : TypeId) (s : List Sc) (v : SV) (h : Hp) : Option (List (TT s) × Hp) := match v with
  | .v (.slice none 0 0) => some ([], h)
  | .all k => match look h k with
    | some (.row ty' s' l) => cond (Nat.beq ty ty') (match castL s' s l with
      | none => none
      | some l' => some (l', put h k .dead)) none
    | _ => none
  | .slc k n 0 m (some c) => cond (Nat.beq n s.length && Nat.beq m c) (match look h k with
    | some (.cells ty' cs) => cond (Nat.beq ty ty') (match decRows s n m cs with
      | none => none
      | some l' => some (l', put h k .dead)) none
    | _ => none) none
  | _ => none
def rowCell (id j : Nat) (ty : TypeId) (s : List Sc) (σ : St) : Option St := match look σ.hp id with
  | some (.cells t c) => match c[j]? with
    | some v => match takeRow ty s v σ.hp with
      | some (l, h') => match look h' id with
        | some (.cells t' c') => match Nat.beq t t' && Nat.blt id σ.nx with
          | true => some ⟨σ.sl, put (put h' σ.nx (.row ty s l)) id (.cells t (c.set j (.all σ.nx))), σ.nx + 1⟩
          | false => none
        | _ => none
      | none => none
    | none => none
  | _ => none
def rowRes (j : Nat) (ty : TypeId) (s : List Sc) (σ : St) : Option St := match look σ.sl 0 with
  | some (.tup c) => match c[j]? with
    | some v => match takeRow ty s v σ.hp with
      | some (l, h') => some ⟨put σ.sl 0 (.tup (c.set j (.all σ.nx))), put h' σ.nx (.row ty s l), σ.nx + 1⟩
      | none => none
    | none => none
  | some v => match takeRow ty s v σ.hp with
    | some (l, h') => some ⟨put σ.sl 0 (.all σ.nx), put h' σ.nx (.row ty s l), σ.nx + 1⟩
    | none => none
  | none => none
def dropNm (id : Nat) (σ : St) : Option St := match look σ.hp id with
  | some _ => some ⟨σ.sl, put σ.hp id .dead, σ.nx⟩
  | none => none
inductive Rw where
  | drop (id : Nat)
  | cell (id j : Nat) (ty : TypeId) (s : List Sc)
  | res (j : Nat) (ty : TypeId) (s : List Sc)
def rows : List Rw → St → Option St
  | [], σ => some σ
  | .drop id :: l, σ => match dropNm id σ with
    | none => none
    | some σ' => rows l σ'
  | .cell id j ty s :: l, σ => match rowCell id j ty s σ with
    | none => none
    | some σ' => rows l σ'
  | .res j ty s :: l, σ => match rowRes j ty s σ with
    | none => none
    | some σ' => rows l σ'
section
variable {P : Program} {C : FuncId → Option Con} {cn : Nat → St → Option St}
end
end Go.Proofs.Ytbmapmigiokbcaa.Ax
