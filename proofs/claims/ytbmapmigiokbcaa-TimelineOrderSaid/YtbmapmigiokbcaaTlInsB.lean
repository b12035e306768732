/- slices.Insert over names: a row with one more, at its place. -/
import Derived.Test.YtbmapmigiokbcaaTlIns
import Derived.Test.YtbmapmigiokbcaaAx22
namespace Go.Proofs.Ytbmapmigiokbcaa.Ax
open Go Go.RowKit Go.Lib Go.Proofs.Ytbmapmigiokbcaa.Print
set_option linter.unusedVariables false
set_option linter.unusedSimpArgs false
abbrev stH : List Sc := [.int .i64, .int .i64, .int .i64]
theorem flat_append3 (l m : List (TT stH)) : flat stH (l ++ m) = flat stH l ++ flat stH m := by unfold flat; rw [List.map_append, List.flatten_append]
theorem flat_len3 (l : List (TT stH)) : (flat stH l).length = l.length * 3 := flat_length stH l
theorem flat_take3 (l : List (TT stH)) (i : Nat) (hi : i ≤ l.length) : (flat stH l).take (i * 3) = flat stH (l.take i) := by
  have h := flat_append3 (l.take i) (l.drop i)
  rw [List.take_append_drop] at h
  have hl : (flat stH (l.take i)).length = i * 3 := by rw [flat_len3, List.length_take, Nat.min_eq_left hi]
  rw [h, ← hl, List.take_left]
theorem flat_drop3 (l : List (TT stH)) (i : Nat) (hi : i ≤ l.length) : (flat stH l).drop (i * 3) = flat stH (l.drop i) := by
  have h := flat_append3 (l.take i) (l.drop i)
  rw [List.take_append_drop] at h
  have hl : (flat stH (l.take i)).length = i * 3 := by rw [flat_len3, List.length_take, Nat.min_eq_left hi]
  rw [h, ← hl, List.drop_left]
theorem flat_one3 (l : List (TT stH)) : ∀ u ∈ flat stH l, u.oneCell' = true := by
  intro u hu
  simp only [flat, List.mem_flatten, List.mem_map] at hu
  obtain ⟨_, ⟨x, _, rfl⟩, hu⟩ := hu
  exact enc_one stH x u hu
def insL {α : Type} (l : List α) (i : Nat) (x : α) : List α := l.take i ++ x :: l.drop i
theorem insL_flat (l : List (TT stH)) (i : Nat) (x : TT stH) (hi : i ≤ l.length) : flat stH (insL l i x) = (flat stH l).take (i * 3) ++ enc stH x ++ (flat stH l).drop (i * 3) := by
  rw [flat_take3 l i hi, flat_drop3 l i hi]
  unfold insL
  rw [flat_append3, show x :: l.drop i = [x] ++ l.drop i from rfl, flat_append3, List.append_assoc]
  congr 2
theorem insL_len (l : List (TT stH)) (i : Nat) (x : TT stH) (hi : i ≤ l.length) : (insL l i x).length = l.length + 1 := by
  unfold insL
  simp only [List.length_append, List.length_take, List.length_cons, List.length_drop]
  omega
theorem ins_any {ρ : Rho} {L : Loc} (l : List (TT stH)) (x : TT stH) (i vb vc : Nat) (cv : Array Value) (w : World) (hi : i ≤ l.length) (hbig : l.length + 1 ≤ 1000000000) (hok : OK ρ w L (.row 55 stH l))
    (hcv : w.heap[vb]? = some (.cells cv 55 (0, 0))) (hvs : cv.toList = enc stH x) (hvb : L.nil = false → vb ≠ L.blk) :
    Calls Try.prog 23 #[rowVal L, .int .i64 i, .slice (some ⟨vb, 0, none⟩) 1 vc] w fun e w' =>
      ∃ L' : Loc, e = .returned (rowVal L') ∧ L'.nil = false ∧ (∀ ρ', OK ρ' w' L' (.row 55 stH (insL l i x))) ∧ w'.os = w.os ∧ w'.tape = w.tape ∧ w'.output = w.output ∧ w.heap.size ≤ w'.heap.size ∧
        ((L.nil = false ∧ L'.blk = L.blk ∧ ∀ b, b ≠ L.blk → w'.heap[b]? = w.heap[b]?) ∨ (L'.blk = w.heap.size ∧ ∀ b, b < w.heap.size → w'.heap[b]? = w.heap[b]?)) := by
  obtain ⟨i0, hi0, hz0, hzs, hzb⟩ := info_parts infoH
  have u50 := Try.underlying50
  by_cases hin : i = l.length
  · subst hin
    obtain ⟨L', w', r1, r2, r3, r4, r5, r6, r7, r8⟩ := append_core (P := Try.prog) (ty := 50) u50 hi0 hz0 (by rw [hzs]; rfl) (by rw [hzs]; decide) (by rw [hzb]; decide) (sc := stH) (by rw [hzs]; rfl) (l := l) (xs := [x]) (by rw [List.length_cons, List.length_nil]; exact hbig) (by rw [List.length_cons]; exact Nat.succ_pos _) hok ⟨vb, 0, none⟩ vc (fun j u hu => by
      rw [Addr.add_lit, Nat.zero_add, blk_cell' hcv, ← Array.getElem?_toList, hvs]
      unfold flat at hu
      rw [List.map_cons, List.map_nil, List.flatten_cons, List.flatten_nil, List.append_nil] at hu
      exact hu)
    have hrun : ∀ ty, (Builtin.append_ #[50, 50] ty #[rowVal L, .slice (some ⟨vb, 0, none⟩) 1 vc]).run Try.prog w = .ok (rowVal L') w' := fun ty => r1
    have hs : rowVal L = .slice none 0 0 ∧ l.length = 0 ∨ ∃ b c, rowVal L = .slice (some ⟨b, 0, none⟩) l.length c ∧ l.length ≤ c := by
      obtain ⟨h0, ⟨h1, h2, h3, h4⟩ | ⟨h1, h2, h3, _⟩⟩ := hok
      · refine .inl ⟨by unfold rowVal; rw [h1, h3, h4]; rfl, by rw [h2]; rfl⟩
      · exact .inr ⟨L.blk, L.cap, by unfold rowVal; rw [h1, h2, h0]; rfl, h3⟩
    refine (ins_end (rowVal L) l.length vb vc (rowVal L') w w' hs hrun).mono ?_
    rintro e w2 ⟨rfl, rfl⟩
    refine ⟨L', rfl, r2, fun ρ' => ?_, r4, r5, r6, r7, ?_⟩
    · unfold insL
      rw [List.take_of_length_le (Nat.le_refl _), List.drop_eq_nil_of_le (Nat.le_refl _)]
      exact r3 ρ'
    · rcases r8 with ⟨q1, _, q2, q3⟩ | q
      · exact .inl ⟨q1, q2, q3⟩
      · exact .inr q
  · have hlt : i < l.length := by omega
    obtain ⟨h0, ⟨h1, h2, h3, h4⟩ | ⟨h1, h2, h3, arr, h4, h5, h6⟩⟩ := hok
    · rw [h2] at hlt; exact absurd hlt (Nat.not_lt_zero _)
    · have hv : rowVal L = .slice (some ⟨L.blk, 0, none⟩) l.length L.cap := by unfold rowVal; rw [h1, h2, h0]; rfl
      have h6 : arr.toList.take (l.length * 3) = flat stH l := h6
      rw [hv]
      by_cases hroom : l.length + 1 ≤ L.cap
      · refine (ins_shift L.blk l.length L.cap i vb vc arr cv (flat stH l) (enc stH x) w hlt hroom hbig (hvb h1) (flat_len3 l) rfl h4 h5 h6 hcv hvs (flat_one3 l) (enc_one stH x)).mono ?_
        rintro e w' ⟨cur', rfl, k1, k2, rfl⟩
        have hh : (w.drew.setRow L.blk cur').heap[L.blk]? = some (.cells cur' 55 (0, 0)) := setRow_heap w.drew _ arr cur' _ _ h4
        refine ⟨⟨L.blk, 0, l.length + 1, L.cap, false, none⟩, rfl, rfl, fun ρ' => ⟨(insL_len l i x hi).symm, .inr ⟨rfl, rfl, by rw [insL_len l i x hi]; exact hroom, cur', hh, k1, ?_⟩⟩, rfl, rfl, rfl, by simp [World.setRow], .inl ⟨h1, rfl, fun b hb => setRow_other w.drew _ _ _ hb⟩⟩
        rw [insL_len l i x hi, insL_flat l i x hi]
        exact k2
      · refine (ins_grow L.blk l.length L.cap i vb vc arr cv (flat stH l) (enc stH x) w hlt h3 (by omega) hbig (flat_len3 l) rfl h4 h6 hcv hvs (flat_one3 l) (enc_one stH x)).mono ?_
        rintro e w' ⟨cur', G, rfl, kG, k1, k2, g⟩
        refine ⟨⟨w.heap.size, 0, l.length + 1, G, false, none⟩, rfl, rfl, fun ρ' => ⟨(insL_len l i x hi).symm, .inr ⟨rfl, rfl, by rw [insL_len l i x hi]; exact kG, cur', g.new, k1, ?_⟩⟩, g.os, g.tape, g.output, by rw [g.size]; omega, .inr ⟨rfl, g.old⟩⟩
        rw [insL_len l i x hi, insL_flat l i x hi]
        exact k2
def cInsert : Con := fun args lo => match args with
  | [.all id, .v (.int .i64 i), .slc id2 3 0 1 (some 1)] => .obj id fun o => match o with
    | .row 55 s l => .opt (castL s stH l) fun l => .obj id2 fun o2 => match o2 with
      | .cells 55 c => .opt (dec stH c) fun x => .br (decide (0 ≤ i) && (decide (i ≤ (l.length : Int)) && Nat.ble (l.length + 1) 1000000000)) (.ret ⟨.all lo, [(id, .dead), (lo, .row 55 stH (insL l i.toNat x))]⟩) .fail
      | _ => .fail
    | _ => .fail
  | [.v (.slice none 0 0), .v (.int .i64 i), .slc id2 3 0 1 (some 1)] => .obj id2 fun o2 => match o2 with
      | .cells 55 c => .opt (dec stH c) fun x => .br (decide (i = 0)) (.ret ⟨.all lo, [(lo, .row 55 stH [x])]⟩) .fail
      | _ => .fail
  | _ => .fail
theorem den_all_rowVal {ρ : Rho} {id : Nat} : den ρ (.all id) = rowVal (ρ id) := rfl
theorem cInsert_ok (B) : ConOk Try.prog B 23 cInsert := by
  intro args ρ h w lo out ids hr hrh hfr hfa up
  have hen : ∀ a, (callFunc 23 a).run Try.prog w = .ok (.enter 23 a) w := fun a => Go.run_callFunc_enter' Try.func23 (by kernel_rfl) rfl a w
  unfold cInsert at hr
  split at hr
  · rename_i id i id2
    obtain ⟨o, ids1, ho, hr⟩ := obj_run hr
    split at hr
    · rename_i s l0
      obtain ⟨l, hl, hr⟩ := opt_run hr
      obtain ⟨rfl, rfl⟩ := castL_eq hl
      obtain ⟨o2, ids2, ho2, hr⟩ := obj_run hr
      split at hr
      · rename_i c
        obtain ⟨x, hx, hr⟩ := opt_run hr
        obtain ⟨hb, hr⟩ := br_run (h := h) hr
        cases hr
        simp only [Bool.and_eq_true, decide_eq_true_eq] at hb
        obtain ⟨b1, b2, b3⟩ := hb
        have b3 := Nat.le_of_ble_eq_true b3
        have hk := hrh.ok _ _ ho
        obtain ⟨k1, k2, k3⟩ := hrh.ok _ _ ho2
        have hcv : (denL ρ c).toArray.toList = enc stH x := by rw [List.toList_toArray]; exact dec_enc ρ _ _ _ hx
        have hne : id2 ≠ id := fun e => by subst e; rw [ho] at ho2; cases ho2
        obtain ⟨n, rfl⟩ := Int.eq_ofNat_of_zero_le b1
        rw [Int.toNat_natCast]
        refine .inl ⟨hen _, ?_⟩
        have hargs : (denL ρ [.all id, .v (.int .i64 n), .slc id2 3 0 1 (some 1)]).toArray = #[rowVal (ρ id), .int .i64 n, .slice (some ⟨(ρ id2).blk, 0, none⟩) 1 1] := by
          simp only [denL, den_all_rowVal]
          simp only [den, k1, k2, Bool.false_eq_true, if_false, Nat.zero_mul, Nat.add_zero]
        rw [hargs]
        refine (ins_any l0 x n (ρ id2).blk 1 _ w (by omega) b3 hk k3 hcv (fun hn => hrh.inj id2 id _ _ ho2 ho rfl rfl k1 hn hne)).mono ?_
        rintro e w' ⟨L', rfl, r2, r3, r4, r5, r6, r7, r8⟩
        have mk := made_row (s := .all lo) hrh hfr (show lo < lo + wide by unfold wide; omega) up ho rfl (o' := .row 55 stH (insL l0 n x)) rfl r4 r5 r6 r7 r2 r3 r8
        refine ⟨_, rfl, setRho ρ lo L', ?_⟩
        rw [den_all_rowVal, setRho_same] at mk
        exact mk
      · cases hr
    · cases hr
  · rename_i i id2
    obtain ⟨o2, ids2, ho2, hr⟩ := obj_run hr
    split at hr
    · rename_i c
      obtain ⟨x, hx, hr⟩ := opt_run hr
      obtain ⟨hb, hr⟩ := br_run (h := h) hr
      cases hr
      have hb := of_decide_eq_true hb
      subst hb
      obtain ⟨k1, k2, k3⟩ := hrh.ok _ _ ho2
      have hcv : (denL ρ c).toArray.toList = enc stH x := by rw [List.toList_toArray]; exact dec_enc ρ _ _ _ hx
      refine .inl ⟨hen _, ?_⟩
      have hargs : (denL ρ [.v (.slice none 0 0), .v (.int .i64 0), .slc id2 3 0 1 (some 1)]).toArray = #[rowVal ⟨0, 0, 0, 0, true, none⟩, .int .i64 ((0 : Nat) : Int), .slice (some ⟨(ρ id2).blk, 0, none⟩) 1 1] := by
        simp only [denL, den, k1, k2, Bool.false_eq_true, if_false, Nat.zero_mul, Nat.add_zero]
        rfl
      rw [hargs]
      refine (ins_any (ρ := ρ) (L := ⟨0, 0, 0, 0, true, none⟩) ([] : List (TT stH)) x 0 (ρ id2).blk 1 _ w (Nat.zero_le _) (by decide) ⟨rfl, .inl ⟨rfl, rfl, rfl, rfl⟩⟩ k3 hcv (fun hn => by cases hn)).mono ?_
      rintro e w' ⟨L', rfl, r2, r3, r4, r5, r6, r7, r8⟩
      obtain ⟨q1, q2⟩ : L'.blk = w.heap.size ∧ ∀ b, b < w.heap.size → w'.heap[b]? = w.heap[b]? := by
        rcases r8 with ⟨q, _⟩ | q
        · cases q
        · exact q
      have mk := made_new (B := B) (lo := lo) (hi := lo + wide) (s := .all lo) (o := .row 55 stH [x]) (L := L') hrh hfr (by unfold wide; omega) up ⟨r4, r5, r6, r7, fun b hb => q2 b (by
        rcases Nat.lt_or_ge b w.heap.size with h' | h'
        · exact h'
        · exact absurd (up b h') hb)⟩ q2 rfl (fun _ => by rw [q1]; exact Nat.le_refl _) (r3 _)
      refine ⟨_, rfl, setRho ρ lo L', ?_⟩
      rw [den_all_rowVal, setRho_same] at mk
      exact mk
    · cases hr
  · cases hr
end Go.Proofs.Ytbmapmigiokbcaa.Ax
