/- Plain laws of a clock: places, states, what closing and filing make of them; no program in sight. -/
import Derived.Test.YtmgfaoomdpgbhaaPeriodC
namespace Go.Proofs.Ytmgfaoomdpgbhaa.Ax
open Go Go.RowKit Go.Proofs.Ytmgfaoomdpgbhaa.Print
set_option linter.unusedVariables false
set_option linter.unusedSimpArgs false

/-- A clock as calls make it. -/
structure Clk (k y m a b : Int) (n : Nat) : Prop where
  kd : k = 1 ∨ k = 2
  good : goodB k y m = true
  b0 : 0 ≤ b
  ba : b ≤ a
  an : a ≤ n
def plV (k y m K Y I : Int) : Int := if goodB K Y I = true ∧ K = k then (Y - y) * manyV k + I - m else -1
def stV (n a b : Int) : Int := if n < 0 then 0 else if n < b then 3 else if n < a then 2 else 1
theorem many1 : manyV 1 = 12 := rfl
theorem many2 : manyV 2 = 4 := rfl
theorem wi {x : Int} (h1 : -9223372036854775808 ≤ x) (h2 : x ≤ 9223372036854775807) : IntKind.i64.wrap x = x := by rw [IntKind.wrap_i64]; omega
theorem none_no {k y m : Int} (hk : k = 1 ∨ k = 2) : noneB k y m = false := by
  rcases hk with rfl | rfl <;> rfl
theorem place_eq {k y m : Int} (hk : k = 1 ∨ k = 2) (hg : goodB k y m = true) (K Y I : Int) : placeV k y m K Y I = plV k y m K Y I := by
  unfold placeV plV
  rw [none_no hk]
  cases h : goodB K Y I with
  | false => rw [if_neg (by simp)]; rfl
  | true =>
    rw [goodB_iff] at h hg
    have h12 := many_bd K
    have h13 := many_bd k
    by_cases e : K = k
    · subst e
      rw [if_pos ⟨rfl, rfl⟩, show (K != K) = false from bne_self_eq_false K]
      simp only [Bool.not_true, cond_false]
      rcases hk with rfl | rfl
      · rw [many1] at h hg ⊢
        show IntKind.i64.wrap (IntKind.i64.wrap (IntKind.i64.wrap (IntKind.i64.wrap (Y - y) * 12) + I) - m) = _
        rw [wi (x := Y - y) (by omega) (by omega), wi (x := (Y - y) * 12) (by omega) (by omega), wi (x := (Y - y) * 12 + I) (by omega) (by omega), wi (by omega) (by omega)]
      · rw [many2] at h hg ⊢
        show IntKind.i64.wrap (IntKind.i64.wrap (IntKind.i64.wrap (IntKind.i64.wrap (Y - y) * 4) + I) - m) = _
        rw [wi (x := Y - y) (by omega) (by omega), wi (x := (Y - y) * 4) (by omega) (by omega), wi (x := (Y - y) * 4 + I) (by omega) (by omega), wi (by omega) (by omega)]
    · rw [if_neg (fun h => e h.2), show (K != k) = true by simpa using e]; rfl
theorem state_eq {k y m : Int} (hk : k = 1 ∨ k = 2) (hg : goodB k y m = true) (a b K Y I : Int) : stateV k y m a b K Y I = stV (plV k y m K Y I) a b := by
  unfold stateV stV
  rw [place_eq hk hg]
  simp only [Bool.cond_decide]
theorem pl_bd {k y m : Int} (hk : k = 1 ∨ k = 2) (hg : goodB k y m = true) (K Y I : Int) : -100000 ≤ plV k y m K Y I ∧ plV k y m K Y I ≤ 100000 := by
  unfold plV
  split
  · rename_i h
    obtain ⟨h, rfl⟩ := h
    rw [goodB_iff] at h hg
    rcases hk with rfl | rfl
    · rw [many1] at h hg ⊢; omega
    · rw [many2] at h hg ⊢; omega
  · omega
theorem pl_inj {k y m : Int} (hk : k = 1 ∨ k = 2) {P Q : Int × Int × Int} (h0 : 0 ≤ plV k y m P.1 P.2.1 P.2.2) (h : plV k y m P.1 P.2.1 P.2.2 = plV k y m Q.1 Q.2.1 Q.2.2) : P = Q := by
  obtain ⟨K, Y, I⟩ := P
  obtain ⟨K', Y', I'⟩ := Q
  simp only at h h0
  unfold plV at h h0
  by_cases c : goodB K Y I = true ∧ K = k
  · rw [if_pos c] at h h0
    by_cases c' : goodB K' Y' I' = true ∧ K' = k
    · rw [if_pos c'] at h
      obtain ⟨g, rfl⟩ := c
      obtain ⟨g', rfl⟩ := c'
      rw [goodB_iff] at g g'
      rcases hk with rfl | rfl
      · rw [many1] at *
        have : Y = Y' ∧ I = I' := by omega
        rw [this.1, this.2]
      · rw [many2] at *
        have : Y = Y' ∧ I = I' := by omega
        rw [this.1, this.2]
    · rw [if_neg c'] at h; omega
  · rw [if_neg c] at h0; omega
theorem st_cases (n a b : Int) : stV n a b = 0 ∨ stV n a b = 1 ∨ stV n a b = 2 ∨ stV n a b = 3 := by
  unfold stV; split; · exact .inl rfl
  split; · exact .inr (.inr (.inr rfl))
  split; · exact .inr (.inr (.inl rfl))
  exact .inr (.inl rfl)
theorem close_spec {k y m a b : Int} {N : Nat} (c : Clk k y m a b N) (hN : N ≤ 1000) (P : Int × Int × Int) :
    ((closeV k y m a b P.1 P.2.1 P.2.2).1 ≠ 0 ∧ (closeV k y m a b P.1 P.2.1 P.2.2).2 = a) ∨
    ((closeV k y m a b P.1 P.2.1 P.2.2).1 = 0 ∧ (closeV k y m a b P.1 P.2.1 P.2.2).2 = a + 1 ∧ plV k y m P.1 P.2.1 P.2.2 = a) := by
  have h1 := c.an
  have h2 := c.b0
  have h3 := c.ba
  unfold closeV
  rw [none_no c.kd, state_eq c.kd c.good, place_eq c.kd c.good]
  simp only [cond_false]
  rcases st_cases (plV k y m P.1 P.2.1 P.2.2) a b with h | h | h | h <;> rw [h]
  · exact .inl ⟨fun h => absurd (show (2 : Int) = 0 from h) (by decide), rfl⟩
  · by_cases e : plV k y m P.1 P.2.1 P.2.2 = a
    · rw [e, show (a != a) = false from bne_self_eq_false a, wi (by omega) (by omega)]
      exact .inr ⟨rfl, rfl, rfl⟩
    · rw [show (plV k y m P.1 P.2.1 P.2.2 != a) = true by simpa using e]
      exact .inl ⟨fun h => absurd (show (71 : Int) = 0 from h) (by decide), rfl⟩
  · exact .inl ⟨fun h => absurd (show (70 : Int) = 0 from h) (by decide), rfl⟩
  · exact .inl ⟨fun h => absurd (show (70 : Int) = 0 from h) (by decide), rfl⟩
theorem file_spec {k y m a b : Int} {N : Nat} (c : Clk k y m a b N) (hN : N ≤ 1000) (P : Int × Int × Int) :
    ((fileV k y m a b P.1 P.2.1 P.2.2).1 ≠ 0 ∧ (fileV k y m a b P.1 P.2.1 P.2.2).2 = b) ∨
    ((fileV k y m a b P.1 P.2.1 P.2.2).1 = 0 ∧ (fileV k y m a b P.1 P.2.1 P.2.2).2 = b + 1 ∧ plV k y m P.1 P.2.1 P.2.2 = b ∧ b < a) := by
  have h1 := c.an
  have h2 := c.b0
  have h3 := c.ba
  unfold fileV
  rw [none_no c.kd, state_eq c.kd c.good, place_eq c.kd c.good]
  simp only [cond_false]
  rcases st_cases (plV k y m P.1 P.2.1 P.2.2) a b with h | h | h | h <;> rw [h]
  · exact .inl ⟨fun h => absurd (show (2 : Int) = 0 from h) (by decide), rfl⟩
  · exact .inl ⟨fun h => absurd (show (71 : Int) = 0 from h) (by decide), rfl⟩
  · by_cases e : plV k y m P.1 P.2.1 P.2.2 = b
    · rw [e, show (b != b) = false from bne_self_eq_false b, wi (by omega) (by omega)]
      refine .inr ⟨rfl, rfl, rfl, ?_⟩
      rw [e] at h
      unfold stV at h
      apply Decidable.byContradiction
      intro hc
      rw [if_neg (by omega), if_neg (by omega), if_neg (by omega)] at h
      cases h
    · rw [show (plV k y m P.1 P.2.1 P.2.2 != b) = true by simpa using e]
      exact .inl ⟨fun h => absurd (show (71 : Int) = 0 from h) (by decide), rfl⟩
  · exact .inl ⟨fun h => absurd (show (71 : Int) = 0 from h) (by decide), rfl⟩
theorem Clk.close {k y m a b : Int} {N : Nat} (c : Clk k y m a b N) (hN : N ≤ 1000) (P : Int × Int × Int) : Clk k y m (closeV k y m a b P.1 P.2.1 P.2.2).2 b (N + 1) := by
  have h1 := c.an
  have h3 := c.ba
  rcases close_spec c hN P with ⟨_, h⟩ | ⟨_, h, _⟩ <;> rw [h]
  · exact ⟨c.kd, c.good, c.b0, c.ba, by omega⟩
  · exact ⟨c.kd, c.good, c.b0, by omega, by omega⟩
theorem Clk.file {k y m a b : Int} {N : Nat} (c : Clk k y m a b N) (hN : N ≤ 1000) (P : Int × Int × Int) : Clk k y m a (fileV k y m a b P.1 P.2.1 P.2.2).2 (N + 1) := by
  have h1 := c.an
  have h2 := c.b0
  have h3 := c.ba
  rcases file_spec c hN P with ⟨_, h⟩ | ⟨_, h, _, h4⟩ <;> rw [h]
  · exact ⟨c.kd, c.good, c.b0, c.ba, by omega⟩
  · exact ⟨c.kd, c.good, by omega, by omega, by omega⟩
theorem of_good (n kd : Int) (h : (ofV n kd).2.2.2 = 0) : goodB (ofV n kd).1 (ofV n kd).2.1 (ofV n kd).2.2.1 = true ∧ (ofV n kd).1 = kd := by
  have hw := of_within n kd h
  have hg : goodB (ofV n kd).1 (ofV n kd).2.1 (ofV n kd).2.2.1 = true := by
    unfold withinV at hw
    rw [first_err] at hw
    cases hg : goodB (ofV n kd).1 (ofV n kd).2.1 (ofV n kd).2.2.1 with
    | true => rfl
    | false => rw [hg] at hw; simp at hw
  refine ⟨hg, ?_⟩
  unfold ofV at h ⊢
  split at h
  · rename_i c
    rw [if_pos c]
    try (split at h <;> split <;> first | rfl | (cases h; done) | simp_all)
  · simp_all
/-- A new clock. -/
theorem clk_new {n kd : Int} (h : ((ofV n kd).2.2.2 != 0 || kd == 3) = false) : Clk (ofV n kd).1 (ofV n kd).2.1 (ofV n kd).2.2.1 0 0 0 := by
  rw [Bool.or_eq_false_iff] at h
  have h0 : (ofV n kd).2.2.2 = 0 := by simpa using h.1
  have h3 : kd ≠ 3 := by simpa using h.2
  obtain ⟨hg, hk⟩ := of_good n kd h0
  refine ⟨?_, hg, by omega, by omega, by omega⟩
  rw [hk]
  rw [hk, goodB_iff] at hg
  rcases many_cases kd with c | c | c | c
  · exact .inl c.1
  · exact .inr c.1
  · exact absurd c.1 h3
  · omega

end Go.Proofs.Ytmgfaoomdpgbhaa.Ax
