/- ProrataTrue. -/
import Derived.Test.YtiajknfbbchfmaaProH
namespace Go.Proofs.Ytiajknfbbchfmaa.Ax
open Go Go.RowKit
open Go.Proofs.Ytiajknfbbchfmaa.Print (subV sumV)
set_option linter.unusedVariables false
set_option linter.unusedSimpArgs false
def fine (r : RW) : Prop := rTreat r ≠ 15 ∧ (-1125899906842624 ≤ rTax r ∧ rTax r ≤ 1125899906842624) ∧ (-1125899906842624 ≤ rDed r ∧ rDed r ≤ 1125899906842624)
def shr (q : Int) (r : RW) : Int := (deductV (rTax r) q true).1
def wantL (y q : Int) : List RW → Int
  | [] => 0
  | r :: l => (bif mixB r y then shr q r else 0) + wantL y q l
theorem want_app (y q : Int) : ∀ a b : List RW, wantL y q (a ++ b) = wantL y q a + wantL y q b
  | [], b => by simp [wantL]
  | r :: a, b => by simp only [List.cons_append, wantL, want_app y q a b]; omega
theorem shr_facts {r : RW} (h : fine r) {q : Int} (h0 : 0 ≤ q) (h1 : q ≤ 100) : (deductV (rTax r) q true).2 = 0 ∧ -1125899906842624 ≤ shr q r ∧ shr q r ≤ 1125899906842624 := by
  have ha : mayB (rTax r) = true := may_of (by have := h.2.1; omega) (by have := h.2.1; omega)
  have hp : percB q = true := by unfold percB; rw [decide_eq_true h0, decide_eq_true h1]; rfl
  have hr : rightV (rTax r) q 100 = true := by
    unfold rightV
    rw [ha, may_of (a := q) (by omega) (by omega)]; rfl
  have hm : 0 ≤ mag (rTax r) ∧ mag (rTax r) ≤ 1125899906842624 := by have := h.2.1; unfold mag; split <;> omega
  have hq : mag q = q := by unfold mag; rw [if_neg (by omega)]
  have hprod : mag (rTax r) * q ≤ 1125899906842624 * 100 := Int.mul_le_mul hm.2 h1 h0 (by omega)
  have hprod0 : 0 ≤ mag (rTax r) * q := Int.mul_nonneg hm.1 h0
  have hh : 0 ≤ halfV (mag (rTax r) * q) 100 ∧ halfV (mag (rTax r) * q) 100 ≤ 1125899906842624 := by
    unfold halfV
    generalize mag (rTax r) * q = z at *
    omega
  have he : mulDivV (rTax r) q 100 = ((if decide (rTax r < 0) = decide (q < 0) then halfV (mag (rTax r) * q) 100 else -halfV (mag (rTax r) * q) 100), 0) := by
    unfold mulDivV
    rw [if_pos hr, hq]
    unfold overV
    rw [if_pos (by omega)]
  have hd : deductV (rTax r) q true = mulDivV (rTax r) q 100 := by
    unfold deductV
    rw [ha, hp]; rfl
  unfold shr
  rw [hd, he]
  refine ⟨rfl, ?_⟩
  show _ ≤ (if decide (rTax r < 0) = decide (q < 0) then halfV (mag (rTax r) * q) 100 else -halfV (mag (rTax r) * q) 100) ∧ _
  split <;> omega
theorem diff_fine {r : RW} (h : fine r) {q : Int} (h0 : 0 ≤ q) (h1 : q ≤ 100) : diffV r q = (shr q r - rDed r, 0, ()) := by
  obtain ⟨e, b⟩ := shr_facts h h0 h1
  unfold diffV
  rw [e, bne0]
  show subQ (shr q r) (rDed r) = _
  unfold subQ
  have : subV (shr q r) (rDed r) = (shr q r - rDed r, 0) := by
    unfold subV
    have hd := h.2.2
    rw [may_print, may_print, may_of (a := shr q r) (by omega) (by omega), may_of (a := rDed r) (by omega) (by omega)]
    show (bif Print.mayB (shr q r - rDed r) then (shr q r - rDed r, (0 : Int)) else (0, 3)) = _
    rw [may_print, may_of (a := shr q r - rDed r) (by omega) (by omega)]; rfl
  rw [this]
theorem gives_fine {r : RW} (h : fine r) (y : Int) : gives y r = mixB r y := by
  unfold gives
  rw [show (rTreat r == 15) = false by simpa using h.1, Bool.and_false, Bool.or_false]
theorem gives_mk {p : P3} {r : RW} {y d : Int} (h : mixB r y = true) : gives y (mkR p r d) = true := by
  unfold mixB at h
  rw [Bool.and_eq_true] at h
  have h1 : (rYear (mkR p r d) == y) = true := h.1
  have h2 : (rTreat (mkR p r d) == 15) = true := rfl
  unfold gives
  rw [h1, h2]; simp
theorem added (p : P3) (y q : Int) (h0 : 0 ≤ q) (h1 : q ≤ 100) : ∀ l : List RW, (∀ r ∈ l, fine r) → ∃ xs, rowsV p y q l = (xs, 0, ()) ∧ xs.length ≤ l.length ∧ (givenL y l).sum + (givenL y xs).sum = wantL y q l ∧
    (givenL y l).all mayB = true ∧ (givenL y xs).all mayB = true ∧ -(1125899906842624 * (l.length : Int)) ≤ wantL y q l ∧ wantL y q l ≤ 1125899906842624 * (l.length : Int)
  | [], _ => ⟨[], rfl, Nat.le_refl _, rfl, rfl, rfl, by simp [wantL], by simp [wantL]⟩
  | r :: l, hf => by
    obtain ⟨xs, e, hx, hs, g1, g2, b1, b2⟩ := added p y q h0 h1 l (fun r' hr' => hf r' (List.mem_cons_of_mem _ hr'))
    have fr := hf r List.mem_cons_self
    obtain ⟨_, s1, s2⟩ := shr_facts fr h0 h1
    have fd := fr.2.2
    have hlen : ((r :: l).length : Int) = (l.length : Int) + 1 := by simp
    rw [hlen]
    unfold wantL
    rw [given_cons, gives_fine fr]
    cases hm : mixB r y with
    | false =>
      refine ⟨xs, ?_, by simp; omega, by simpa using hs, g1, g2, by simp; omega, by simp; omega⟩
      simp only [rowsV, hm, cond_false, e]
    | true =>
      have hm1 : mayB (rDed r) = true := may_of (by omega) (by omega)
      have hall : (rDed r :: givenL y l).all mayB = true := by rw [List.all_cons, hm1, g1]; rfl
      by_cases hz : shr q r - rDed r = 0
      · refine ⟨xs, ?_, by simp; omega, ?_, hall, g2, by simp only [cond_true]; omega, by simp only [cond_true]; omega⟩
        · simp only [rowsV, hm, cond_true, diff_fine fr h0 h1, hz, e, bne0, cond_false]
        · simp only [cond_true, List.sum_cons]; omega
      · refine ⟨mkR p r (shr q r - rDed r) :: xs, ?_, by simp; omega, ?_, hall, ?_, by simp only [cond_true]; omega, by simp only [cond_true]; omega⟩
        · have hb : (shr q r - rDed r != 0) = true := by simpa [bne] using hz
          simp only [rowsV, hm, cond_true, diff_fine fr h0 h1, hb, e, bne0, cond_false]
        · rw [given_cons, gives_mk hm]
          simp only [cond_true, List.sum_cons]
          show rDed r + (givenL y l).sum + ((shr q r - rDed r) + (givenL y xs).sum) = _
          omega
        · rw [given_cons, gives_mk hm]
          simp only [cond_true, List.all_cons, g2, Bool.and_true]
          exact may_of (a := shr q r - rDed r) (by omega) (by omega)
theorem given_app (y : Int) (a b : List RW) : givenL y (a ++ b) = givenL y a ++ givenL y b := by simp [givenL]
theorem appT_eq {β : Type} {l x : List RW} (hl : l.length ≤ 1000) (hx : x.length ≤ l.length) (k : List RW → Option β) : appT l x k = k (l ++ x) := by
  unfold appT
  rw [decide_eq_true (show (0 : Int) ≤ (l.length : Int) by omega), decide_eq_true (Int.le_refl _), Nat.beq_refl, Nat.ble_eq_true_of_le (show l.length + x.length ≤ 1000000000 by omega), Nat.ble_eq_true_of_le (Nat.le_refl l.length)]
  cases x with
  | nil => rw [List.append_nil]; rfl
  | cons a x => rfl
theorem fin_yes (l : List RW) (y q : Int) (p : P3) (hl : l.length ≤ 60) (h0 : 0 ≤ q) (h1 : q ≤ 100) (hf : ∀ r ∈ l, fine r) : trueFin l y q p (wantL y q l) = yesT := by
  obtain ⟨xs, e, hx, hs, g1, g2, b1, b2⟩ := added p y q h0 h1 l hf
  have ha : allRows l y q p = (xs, 0, ()) := by
    unfold allRows
    rw [decide_eq_false (show ¬ q < 0 by omega), decide_eq_false (show ¬ 100 < q by omega), e]; rfl
  have hsum : sumQ (givenL y (l ++ xs)) = (wantL y q l, 0, ()) := by
    have hall : (givenL y l ++ givenL y xs).all mayB = true := by rw [List.all_append, g1, g2]; rfl
    unfold sumQ
    rw [given_app, smV_all hall, List.sum_append, hs, may_of (a := wantL y q l) (by omega) (by omega)]; rfl
  unfold trueFin
  rw [ha, capd_yes (by omega)]
  simp only [obnd_some]
  rw [appT_eq (by omega) hx, capd_yes (by rw [List.length_append]; omega), obnd_some, hsum]
  simp only [beq_self_eq_true, sel_true]
  rw [vSame_self xs (by omega)]; rfl
theorem row_or {r : RW} {i : Int} {k : OB} (h : fine r → k = yesT) : trueRow r i k = yesT := by
  unfold trueRow
  by_cases a1 : rTreat r = 15
  · rw [show (rTreat r == 15) = true by simpa using a1]; rfl
  rw [show (rTreat r == 15) = false by simpa using a1, sel_false]
  by_cases a2 : 1125899906842624 < rTax r
  · rw [decide_eq_true a2]; rfl
  rw [decide_eq_false a2, sel_false]
  by_cases a3 : rTax r < -1125899906842624
  · rw [decide_eq_true a3]; rfl
  rw [decide_eq_false a3, sel_false]
  by_cases a4 : 1125899906842624 < rDed r
  · rw [decide_eq_true a4]; rfl
  rw [decide_eq_false a4, sel_false]
  by_cases a5 : rDed r < -1125899906842624
  · rw [decide_eq_true a5]; rfl
  rw [decide_eq_false a5, sel_false]
  by_cases a6 : 100 < i
  · rw [decide_eq_true a6]; rfl
  rw [decide_eq_false a6, sel_false]
  exact h ⟨a1, by omega, by omega⟩
theorem want_bd (y q : Int) (h0 : 0 ≤ q) (h1 : q ≤ 100) {l : List RW} (hf : ∀ r ∈ l, fine r) : -(1125899906842624 * (l.length : Int)) ≤ wantL y q l ∧ wantL y q l ≤ 1125899906842624 * (l.length : Int) := by
  obtain ⟨_, _, _, _, _, _, b⟩ := added (0, 0, 0) y q h0 h1 l hf
  exact b
theorem LPT_run (F : Nat) (l : List RW) (y q : Int) (p : P3) (hl : l.length ≤ 60) (h0 : 0 ≤ q) (h1 : q ≤ 100) : ∀ (d i kk : Nat), i + d = l.length → d < kk → (∀ r ∈ l.take i, fine r) → LPT F kk l y q p (wantL y q (l.take i)) i = yesT
  | 0, i, kk, hi, hk, hf => by
    obtain ⟨k, rfl⟩ : ∃ k, kk = k + 1 := ⟨kk - 1, by omega⟩
    rw [List.take_of_length_le (by omega)] at hf ⊢
    rw [LPT_eq, decide_eq_false (by omega), sel_false, fin_yes l y q p hl h0 h1 hf]
  | d + 1, i, kk, hi, hk, hf => by
    obtain ⟨k, rfl⟩ : ∃ k, kk = k + 1 := ⟨kk - 1, by omega⟩
    have hlt : i < l.length := by omega
    rw [LPT_eq, decide_eq_true (by omega), sel_true, idx_ok hlt]
    refine row_or fun hr => ?_
    have htake : l.take (i + 1) = l.take i ++ [rAt l (i : Int)] := by
      have hd := rAt_drop hlt
      rw [List.drop_eq_getElem_cons hlt] at hd
      rw [List.take_add_one, List.getElem?_eq_getElem hlt, (List.cons.inj hd).1]; rfl
    have hf' : ∀ r ∈ l.take (i + 1), fine r := by
      intro r hm
      rw [htake, List.mem_append, List.mem_singleton] at hm
      rcases hm with hm | rfl
      · exact hf r hm
      · exact hr
    have hw : wantL y q (l.take (i + 1)) = wantL y q (l.take i) + (bif mixB (rAt l i) y then shr q (rAt l i) else 0) := by
      rw [htake, want_app]
      simp [wantL]
    have hb := want_bd y q h0 h1 hf'
    have hlen : ((l.take (i + 1)).length : Int) ≤ 60 := by rw [List.length_take]; omega
    have ih := LPT_run F l y q p hl h0 h1 d (i + 1) k (by omega) (by omega) hf'
    rw [wrap_one (show i < 1000000000 by omega)]
    cases hm : mixB (rAt l i) y with
    | false =>
      rw [hm] at hw
      rw [sel_false]
      rw [show wantL y q (l.take i) = wantL y q (l.take (i + 1)) by rw [hw]; simp]
      exact ih
    | true =>
      rw [hm] at hw
      rw [sel_true]
      have : IT.wrap (wantL y q (l.take i) + (deductV (rTax (rAt l i)) q true).1) = wantL y q (l.take (i + 1)) := by
        rw [hw] at hb ⊢
        show IntKind.i64.wrap (wantL y q (l.take i) + shr q (rAt l i)) = wantL y q (l.take i) + shr q (rAt l i)
        simp only [cond_true] at hb
        rw [IntKind.wrap_i64]; omega
      rw [this]
      exact ih
theorem true_yes (l : List RW) (y q : Int) (p : P3) (hl : l.length ≤ 140737488351232) : trueLaw 100 l y q p = yesT := by
  unfold trueLaw
  rw [capL_yes hl, obnd_some]
  cases h : lightL l with
  | false => rfl
  | true =>
    have h60 := light_len h
    by_cases a : q < 0
    · rw [decide_eq_true a]; rfl
    by_cases b : 100 < q
    · rw [decide_eq_true b, decide_eq_false a]; rfl
    rw [decide_eq_false a, decide_eq_false b]
    show LPT 100 100 l y q p 0 0 = yesT
    exact LPT_run 100 l y q p (by omega) (by omega) (by omega) l.length 0 100 (by omega) (by omega) (fun r hr => by simp at hr)
theorem true_ev (l : List RW) (y q : Int) (p : P3) (hl : l.length ≤ 140737488351232) : evX Try.prog CLw (cnRow 1 TPT) 100 Try.f4 [pRows, pInt, pInt, pPer] [.one .bool] (l, y, q, p, ()) = some (true, ()) := (true_law 100 l y q p).trans (true_yes l y q p hl)
end Go.Proofs.Ytiajknfbbchfmaa.Ax
namespace Go.Proofs.Ytiajknfbbchfmaa.Print
open Go Go.RowKit Go.Proofs.YtiajknfbbchfmaaW.PrintWords Go.Proofs.Ytiajknfbbchfmaa.Ax
set_option linter.unusedVariables false
def octroilaw28_ProrataTrue.f (l0 : List S34) (a1 a2 a3_0 a3_1 a3_2 : Int) : Option Bool := if l0.length ≤ 140737488351232 then some true else none
theorem octroilaw28_ProrataTrue.calls (A0 : Option Addr) (c0 : Nat) (l0 : List S34) (a1 a2 a3_0 a3_1 a3_2 : Int) (r : Bool) (w : World) (hr0 : Kd.C k34 w A0 l0.length l0) (hc0 : l0.length ≤ c0) (h : octroilaw28_ProrataTrue.f l0 a1 a2 a3_0 a3_1 a3_2 = some r) :
    Calls Try.prog 4 #[.slice A0 l0.length c0, .int .i64 a1, .int .i64 a2, .agg #[.int .i64 a3_0, .int .i64 a3_1, .int .i64 a3_2]] w fun e w' => e = .returned (.bool r) ∧ Below w.heap.size w w' := by
  unfold octroilaw28_ProrataTrue.f at h
  split at h
  · rename_i hl
    obtain rfl : true = r := Option.some.inj h
    obtain ⟨L, h1, h2⟩ := row_of_C rowT_enc rfl (by decide) hr0 hc0
    have hlen : (l0.map rowTT).length ≤ 140737488351232 := by rw [List.length_map]; exact hl
    have := calls_of_X mixed Try.func4 CLw_ok (fun B' w => cnRow_ok) (true_ev (l0.map rowTT) a1 a2 (a3_0, a3_1, a3_2) hlen) (fun _ => L) w (fun j o hj => by
      obtain ⟨rfl, rfl⟩ := look_one hj
      exact ⟨Nat.le_refl _, by decide, rfl, rfl, h2 _⟩)
    have hargs : (denL (fun _ => L) (encA [pRows, pInt, pInt, pPer] (l0.map rowTT, a1, a2, (a3_0, a3_1, a3_2), ()) 0)).toArray = #[.slice A0 l0.length c0, .int .i64 a1, .int .i64 a2, .agg #[.int .i64 a3_0, .int .i64 a3_1, .int .i64 a3_2]] := by
      have h3 := h1 (fun _ => L) 0 rfl
      show (#[den (fun _ => L) (.all 0), _, _, _] : Array Value) = _
      rw [h3]; rfl
    exact cast (congrArg (fun z => Calls Try.prog 4 z w fun e w' => e = .returned (.bool true) ∧ Below w.heap.size w w') hargs) this
  · cases h
end Go.Proofs.Ytiajknfbbchfmaa.Print
namespace Go.Proofs.Ytiajknfbbchfmaa.Print
open Go.RowKit Go.Proofs.YtiajknfbbchfmaaW.PrintWords Go.Proofs.YtiajknfbbchfmaaW.PrintLast
def octroilaw28_ProrataTrue.Pure : Prop := ∀ (l0 : List (S34)) (a1 : Int) (a2 : Int) (a3_0 : Int) (a3_1 : Int) (a3_2 : Int), l0.length ≤ maxLen → l0.length * 160 ≤ 140737488351232 → (∀ x ∈ l0, (((Lit.int .i64 x.f0.f0).wf = true ∧ ((Lit.int .i64 x.f0.f1).wf = true ∧ (Lit.int .i64 x.f0.f2).wf = true)) ∧ (((Lit.int .i64 x.f1.f0).wf = true ∧ ((Lit.int .i64 x.f1.f1).wf = true ∧ (Lit.int .i64 x.f1.f2).wf = true)) ∧ (x.f2.size ≤ maxLen ∧ (True ∧ ((Lit.int .i64 x.f4).wf = true ∧ ((Lit.int .i64 x.f5).wf = true ∧ ((Lit.int .i64 x.f6).wf = true ∧ (x.f7.size ≤ maxLen ∧ (x.f8.size ≤ maxLen ∧ ((Lit.int .i64 x.f9).wf = true ∧ ((Lit.int .i64 x.f10).wf = true ∧ ((Lit.int .i64 x.f11).wf = true ∧ True))))))))))))) → (Lit.int .i64 a1).wf = true → (Lit.int .i64 a2).wf = true → (Lit.int .i64 a3_0).wf = true → (Lit.int .i64 a3_1).wf = true → (Lit.int .i64 a3_2).wf = true → octroilaw28_ProrataTrue.f l0 a1 a2 a3_0 a3_1 a3_2 = some true
end Go.Proofs.Ytiajknfbbchfmaa.Print
namespace Go.Proofs.Ytiajknfbbchfmaa.Pure
open Go.RowKit Go.Proofs.Ytiajknfbbchfmaa.Print
theorem ProrataTrue : octroilaw28_ProrataTrue.Pure := by
  unfold octroilaw28_ProrataTrue.Pure
  intros
  unfold octroilaw28_ProrataTrue.f
  rw [if_pos (by omega)]
end Go.Proofs.Ytiajknfbbchfmaa.Pure
