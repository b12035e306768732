/- The law PeriodOnce: the loop tells true, whatever the steps; its contract. -/
import Derived.Test.YtmgfaoomdpgbhaaPerOnce
import Derived.Test.YtmgfaoomdpgbhaaClk
namespace Go.Proofs.Ytmgfaoomdpgbhaa.Ax
open Go Go.RowKit Go.Proofs.Ytmgfaoomdpgbhaa.Print
set_option linter.unusedVariables false
set_option linter.unusedSimpArgs false

theorem tail_ok {e own is : Int} {R : Option SV} (h3 : e ≠ 0 → is = own) (h4 : e = 0 → is = IntKind.i64.wrap (own + 1)) : tailT e own is R = R := by
  unfold tailT
  by_cases he : e = 0
  · subst he
    rw [← h4 rfl, bne_self_eq_false, bne_self_eq_false]
    rfl
  · rw [h3 he, show (e != 0) = true by simpa using he, show (e == 0) = false by simpa using he, bne_self_eq_false]
    rfl
theorem chk_ok {e own is now last : Int} {same : Bool} {R : Option SV} (h1 : last ≤ now) (h2 : last < now → same = true) (h3 : e ≠ 0 → is = own) (h4 : e = 0 → is = IntKind.i64.wrap (own + 1)) : chkT e own is now last same R = R := by
  unfold chkT
  rw [decide_eq_false (show ¬ now < last by omega), tail_ok h3 h4]
  by_cases h : last < now
  · rw [decide_eq_true h, h2 h]; rfl
  · rw [decide_eq_false h]; rfl
theorem same3_self (P : Int × Int × Int) : same3 P P = true := by unfold same3; simp
theorem body_ok {F kk : Nat} {l : List I4} {i last k y m a b K Y I kd : Int} {N : Nat} (c : Clk k y m a b N) (hN : N ≤ 1000) (hl : last = stateV k y m a b K Y I) (P : Int × Int × Int) {T : Option SV}
    (hR : ∀ a' b' : Int, Clk k y m a' b' (N + 1) → LO F kk l (IntKind.i64.wrap (i + 1)) (stateV k y m a' b' K Y I) k y m a' b' K Y I = T) : bodyT F kk l i last k y m a b K Y I kd P = T := by
  have h1 := c.an
  have h2 := c.b0
  have h3 := c.ba
  have hP := pl_bd c.kd c.good P.1 P.2.1 P.2.2
  have inj := @pl_inj k y m c.kd P (K, Y, I)
  unfold bodyT
  subst hl
  have cc := c.close hN P
  have cf := c.file hN P
  rw [hR _ _ cc, hR _ _ cf]
  have e1 : chkT (closeV k y m a b P.1 P.2.1 P.2.2).1 (stateV k y m a b P.1 P.2.1 P.2.2) (stateV k y m (closeV k y m a b P.1 P.2.1 P.2.2).2 b P.1 P.2.1 P.2.2) (stateV k y m (closeV k y m a b P.1 P.2.1 P.2.2).2 b K Y I) (stateV k y m a b K Y I) (same3 P (K, Y, I)) T = T := by
    rcases close_spec c hN P with ⟨q1, q2⟩ | ⟨q1, q2, q3⟩
    · rw [q2]
      exact chk_ok (Int.le_refl _) (fun h => absurd h (by omega)) (fun _ => rfl) (fun h => absurd h q1)
    · rw [q1, q2]
      simp only [state_eq c.kd c.good]
      refine chk_ok ?_ (fun h => ?_) (fun h => absurd rfl h) (fun _ => ?_)
      · unfold stV; repeat (first | omega | split)
      · have e : plV k y m P.1 P.2.1 P.2.2 = plV k y m K Y I := by
          rw [q3]
          unfold stV at h
          apply Decidable.byContradiction
          intro hne
          repeat (first | omega | split at h)
        have := inj (by omega) e
        rw [← this]; exact same3_self P
      · rw [q3]
        have s1 : stV a (a + 1) b = 2 := by unfold stV; rw [if_neg (by omega), if_neg (by omega), if_pos (by omega)]
        have s2 : stV a a b = 1 := by unfold stV; rw [if_neg (by omega), if_neg (by omega), if_neg (by omega)]
        rw [s1, s2]; rfl
  have e2 : chkT (fileV k y m a b P.1 P.2.1 P.2.2).1 (stateV k y m a b P.1 P.2.1 P.2.2) (stateV k y m a (fileV k y m a b P.1 P.2.1 P.2.2).2 P.1 P.2.1 P.2.2) (stateV k y m a (fileV k y m a b P.1 P.2.1 P.2.2).2 K Y I) (stateV k y m a b K Y I) (same3 P (K, Y, I)) T = T := by
    rcases file_spec c hN P with ⟨q1, q2⟩ | ⟨q1, q2, q3, q4⟩
    · rw [q2]
      exact chk_ok (Int.le_refl _) (fun h => absurd h (by omega)) (fun _ => rfl) (fun h => absurd h q1)
    · rw [q1, q2]
      simp only [state_eq c.kd c.good]
      refine chk_ok ?_ (fun h => ?_) (fun h => absurd rfl h) (fun _ => ?_)
      · unfold stV; repeat (first | omega | split)
      · have e : plV k y m P.1 P.2.1 P.2.2 = plV k y m K Y I := by
          rw [q3]
          unfold stV at h
          apply Decidable.byContradiction
          intro hne
          repeat (first | omega | split at h)
        have := inj (by omega) e
        rw [← this]; exact same3_self P
      · rw [q3]
        have s1 : stV b a (b + 1) = 3 := by unfold stV; rw [if_neg (by omega), if_pos (by omega)]
        have s2 : stV b a b = 2 := by unfold stV; rw [if_neg (by omega), if_neg (by omega), if_pos (by omega)]
        rw [s1, s2]; rfl
  rw [e1, e2]
  cases (Int.tmod kd 2 == 0) <;> rfl
theorem rng_ok {a : Int} {n : Nat} (h0 : 0 ≤ a) (h1 : a ≤ n) (h2 : n ≤ 1000) : rngB a = true := by
  rw [rngB_iff]; omega
theorem LO_true (F : Nat) (l : List I4) (hl : l.length ≤ 60) (k y m K Y I : Int) : ∀ (d : Nat) (kk i : Nat) (a b : Int), i + d = l.length → d < kk → Clk k y m a b i →
    LO F kk l i (stateV k y m a b K Y I) k y m a b K Y I = some (.v (.bool true))
  | 0, kk, i, a, b, hi, hk, c => by
    obtain ⟨kk, rfl⟩ : ∃ q, kk = q + 1 := ⟨kk - 1, by omega⟩
    rw [LO_eq, decide_eq_false (show ¬ (i : Int) < (l.length : Int) by omega)]
    rfl
  | d + 1, kk, i, a, b, hi, hk, c => by
    obtain ⟨kk, rfl⟩ : ∃ q, kk = q + 1 := ⟨kk - 1, by omega⟩
    have hw : IntKind.i64.wrap ((i : Int) + 1) = ((i + 1 : Nat) : Int) := by rw [wi (by omega) (by omega)]; omega
    have hb : ∀ P : Int × Int × Int, bodyT F kk l i (stateV k y m a b K Y I) k y m a b K Y I (at4 l i).1 P = some (.v (.bool true)) := fun P =>
      body_ok c (by omega) rfl P (fun a' b' c' => by rw [hw]; exact LO_true F l hl k y m K Y I d kk (i + 1) a' b' (by omega) (by omega) c')
    have ha := c.an
    have hb0 := c.b0
    have hba := c.ba
    rw [LO_eq, decide_eq_true (show (i : Int) < (l.length : Int) by omega), decide_eq_true (show (0 : Int) ≤ (i : Int) by omega), decide_eq_true (show (i : Int).toNat < l.length by omega), hb, hb, rng_ok (n := i) (by omega) ha (by omega)]
    cases ((at4 l i).1 == 2) <;> rfl
theorem once_tree (F : Nat) (l : List I4) (kd d K Y I : Int) : evFn Try.prog CLaw (cnOf 1 TOnce) F Try.f3 [.v (.int .i64 kd), .v (.int .i64 d), .all 0, .agg [.v (.int .i64 K), .v (.int .i64 Y), .v (.int .i64 I)]] [(0, .arg stS l)] 1 K1 =
    sel (decide (60 < (l.length : Int))) (some (.v (.bool true))) (sel ((ofV d kd).2.2.2 != 0 || kd == 3) (some (.v (.bool true)))
      (LO F F l 0 (stateV (ofV d kd).1 (ofV d kd).2.1 (ofV d kd).2.2.1 0 0 K Y I) (ofV d kd).1 (ofV d kd).2.1 (ofV d kd).2.2.1 0 0 K Y I)) := by kernel_rfl
theorem once_ev (l : List I4) (kd d K Y I : Int) : evFn Try.prog CLaw (cnOf 1 TOnce) 100 Try.f3 [.v (.int .i64 kd), .v (.int .i64 d), .all 0, .agg [.v (.int .i64 K), .v (.int .i64 Y), .v (.int .i64 I)]] [(0, .arg stS l)] 1 K1 = some (.v (.bool true)) := by
  rw [once_tree]
  by_cases h : 60 < (l.length : Int)
  · rw [decide_eq_true h]; rfl
  · rw [decide_eq_false h]
    cases hn : ((ofV d kd).2.2.2 != 0 || kd == 3) with
    | true => rfl
    | false => exact LO_true 100 l (by omega) _ _ _ K Y I l.length 100 0 0 0 (by omega) (by omega) (clk_new hn)
theorem once_nil (A : Option Addr) (c : Nat) (kd d K Y I : Int) : evFn Try.prog CLaw (cnOf 0 TOnce) 2 Try.f3 [.v (.int .i64 kd), .v (.int .i64 d), .v (.slice A 0 c), .agg [.v (.int .i64 K), .v (.int .i64 Y), .v (.int .i64 I)]] [] 0 K1 =
    sel ((ofV d kd).2.2.2 != 0 || kd == 3) (some (.v (.bool true))) (some (.v (.bool true))) := by kernel_rfl
end Go.Proofs.Ytmgfaoomdpgbhaa.Ax
