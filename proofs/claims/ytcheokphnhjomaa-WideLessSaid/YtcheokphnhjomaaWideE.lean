/- The contract of wide.Less: its sign, and what it is made of. -/
import Derived.Test.YtcheokphnhjomaaWideD
import Derived.Test.YtcheokphnhjomaaRowA
namespace Go.Proofs.Ytcheokphnhjomaa.Ax
open Go Go.RowKit
set_option linter.unusedVariables false
set_option linter.unusedSimpArgs false

/-- The sign of a product. -/
def signO (a b : Int) : Int := if a = 0 then 0 else if b = 0 then 0 else if decide (a < 0) = decide (b < 0) then 1 else -1
theorem signO_tree (a b : Int) : evFn Try.prog CWide cn0 8 Try.f37 [.v (.int .i64 a), .v (.int .i64 b)] [] 0 K1 =
    sel (a == 0) (some (.v (.int .i64 0))) (sel (b == 0) (some (.v (.int .i64 0))) (sel (!decide (a < 0) == decide (b < 0)) (some (.v (.int .i64 (-1)))) (some (.v (.int .i64 1))))) := by kernel_rfl
def cSignO : Con := fun args _ => match args with
  | [.v (.int .i64 a), .v (.int .i64 b)] => .ret ⟨.v (.int .i64 (signO a b)), []⟩
  | _ => .fail
theorem cSignO_ok : ∀ B, ConOk Try.prog B 37 cSignO := con_pure mixed Try.func37 (by kernel_rfl) rfl CWide_ok (fun B' w => cn0_ok B' w _) (by
  intro args lo h out ids hr
  unfold cSignO at hr
  split at hr
  · rename_i a b
    cases hr
    refine ⟨rfl, rfl, ?_⟩
    rw [signO_tree]
    unfold signO
    by_cases h1 : a = 0
    · subst h1; rfl
    · rw [if_neg h1, show (a == 0) = false from by simpa using h1]
      by_cases h2 : b = 0
      · subst h2; rfl
      · rw [if_neg h2, show (b == 0) = false from by simpa using h2]
        cases decide (a < 0) <;> cases decide (b < 0) <;> rfl
  · cases hr)
def CLess : FuncId → Option Con
  | 37 => some cSignO
  | g => CWide g
theorem CLess_ok : ∀ B' g φ, CLess g = some φ → ConOk Try.prog B' g φ := by
  intro B' g φ h
  unfold CLess at h
  split at h
  · cases h; exact cSignO_ok B'
  · exact CWide_ok B' g φ h


noncomputable def l2 (b : Bool) (e : Int) : Option SV := some (.tup [.v (.bool b), .v (.int .i64 e)])
noncomputable def lessT (s t ph pl qh ql : Int) : Option SV :=
  sel (s != t) (l2 (decide (s < t)) 0) (sel (decide (s < 0)) (l2 (belowV qh ql ph pl) 0) (sel (!(ph == qh && (pl == ql && true))) (l2 (belowV ph pl qh ql) 0) (l2 false 0)))
theorem less_tree (a b c d : Int) : evFn Try.prog CLess cn0 8 Try.f20 [.v (.int .i64 a), .v (.int .i64 b), .v (.int .i64 c), .v (.int .i64 d)] [] 0 K1 =
    sel (!mayB a) (l2 false 2) (sel (!mayB b) (l2 false 2) (sel (!mayB c) (l2 false 2) (sel (!mayB d) (l2 false 2)
      (sel (u64B (sizeV a) && u64B (sizeV b)) (sel (u64B (sizeV c) && u64B (sizeV d))
        (lessT (signO a b) (signO c d) (mulHi (sizeV a) (sizeV b)) (mulLo (sizeV a) (sizeV b)) (mulHi (sizeV c) (sizeV d)) (mulLo (sizeV c) (sizeV d))) none) none)))) := by kernel_rfl
theorem below_eq (P Q : Int) : belowV (P / 18446744073709551616) (P % 18446744073709551616) (Q / 18446744073709551616) (Q % 18446744073709551616) = decide (P < Q) := by
  unfold belowV
  rw [Bool.eq_iff_iff]
  simp only [Bool.or_eq_true, Bool.and_eq_true, decide_eq_true_eq, beq_iff_eq]
  omega
theorem lessT_eq (x y P Q s t : Int) (hP : P = if x < 0 then -x else x) (hQ : Q = if y < 0 then -y else y) (hs : s = if x = 0 then 0 else if x < 0 then -1 else 1) (ht : t = if y = 0 then 0 else if y < 0 then -1 else 1) :
    lessT s t (P / 18446744073709551616) (P % 18446744073709551616) (Q / 18446744073709551616) (Q % 18446744073709551616) = l2 (decide (x < y)) 0 := by
  unfold lessT
  rw [below_eq, below_eq]
  have hpq : (P / 18446744073709551616 == Q / 18446744073709551616 && (P % 18446744073709551616 == Q % 18446744073709551616 && true)) = decide (P = Q) := by
    rw [Bool.eq_iff_iff]
    simp only [Bool.and_true, Bool.and_eq_true, decide_eq_true_eq, beq_iff_eq]
    omega
  rw [hpq]
  by_cases h1 : s = t
  · rw [show (s != t) = false from by simpa using h1]
    simp only [sel_false]
    by_cases h2 : s < 0
    · rw [decide_eq_true h2]
      simp only [sel_true]
      congr 1
      rw [Bool.eq_iff_iff]
      simp only [decide_eq_true_eq]
      split at hs <;> split at ht <;> split at hP <;> split at hQ <;> omega
    · rw [decide_eq_false h2]
      simp only [sel_false]
      by_cases h3 : P = Q
      · rw [decide_eq_true h3]
        simp only [Bool.not_true, sel_false]
        congr 1
        rw [eq_comm, decide_eq_false_iff_not]
        split at hs <;> split at ht <;> split at hP <;> split at hQ <;> omega
      · rw [decide_eq_false h3]
        simp only [Bool.not_false, sel_true]
        congr 1
        rw [Bool.eq_iff_iff]
        simp only [decide_eq_true_eq]
        split at hs <;> split at ht <;> split at hP <;> split at hQ <;> omega
  · rw [show (s != t) = true from by simpa using h1]
    simp only [sel_true]
    congr 1
    rw [Bool.eq_iff_iff]
    simp only [decide_eq_true_eq]
    split at hs <;> split at ht <;> split at hP <;> split at hQ <;> omega

theorem signO_eq (a b : Int) : signO a b = if a * b = 0 then 0 else if a * b < 0 then -1 else 1 := by
  unfold signO
  by_cases h1 : a = 0
  · subst h1; simp
  · by_cases h2 : b = 0
    · subst h2; simp
    · have h0 : ¬ a * b = 0 := fun h => by rcases Int.mul_eq_zero.1 h with h | h <;> contradiction
      rw [if_neg h1, if_neg h2, if_neg h0]
      rcases (mag_mul a b).2 with h | h
      · exact absurd h h0
      · by_cases h3 : a * b < 0
        · rw [decide_eq_true h3] at h
          rw [if_pos h3]
          cases ha : decide (a < 0) <;> cases hb : decide (b < 0) <;> simp_all
        · rw [decide_eq_false h3] at h
          rw [if_neg h3]
          cases ha : decide (a < 0) <;> cases hb : decide (b < 0) <;> simp_all
def lessV (a b c d : Int) : Bool × Int := if mayB a && (mayB b && (mayB c && mayB d)) then (decide (a * b < c * d), 0) else (false, 2)
theorem u64_mag {a : Int} (h : mayB a = true) : sizeV a = mag a ∧ u64B (mag a) = true := by
  rw [mayB_iff] at h
  have := mag_bd h
  exact ⟨sizeV_eq h, (u64B_iff _).2 (by omega)⟩
theorem less_ev (a b c d : Int) : evFn Try.prog CLess cn0 8 Try.f20 [.v (.int .i64 a), .v (.int .i64 b), .v (.int .i64 c), .v (.int .i64 d)] [] 0 K1 = l2 (lessV a b c d).1 (lessV a b c d).2 := by
  rw [less_tree]
  unfold lessV
  cases ha : mayB a with
  | false => rfl
  | true =>
    cases hb : mayB b with
    | false => rfl
    | true =>
      cases hc : mayB c with
      | false => rfl
      | true =>
        cases hd : mayB d with
        | false => rfl
        | true =>
          obtain ⟨a1, a2⟩ := u64_mag ha
          obtain ⟨b1, b2⟩ := u64_mag hb
          obtain ⟨c1, c2⟩ := u64_mag hc
          obtain ⟨d1, d2⟩ := u64_mag hd
          rw [a1, b1, c1, d1, a2, b2, c2, d2]
          exact lessT_eq (a * b) (c * d) _ _ _ _ (mag_mul a b).1 (mag_mul c d).1 (signO_eq a b) (signO_eq c d)
end Go.Proofs.Ytcheokphnhjomaa.Ax
namespace Go.Proofs.Ytcheokphnhjomaa.Print
open Go Go.RowKit Go.Proofs.Ytcheokphnhjomaa.Ax
def wide_Less.f (a b c d : Int) : Option (Bool × Int) := some (lessV a b c d)
theorem wide_Less.calls (a b c d : Int) (r1 : Bool) (r2 : Int) (w : World) (h : wide_Less.f a b c d = some (r1, r2)) :
    Calls Try.prog 20 #[.int .i64 a, .int .i64 b, .int .i64 c, .int .i64 d] w fun e w' => e = .returned (.tuple #[.bool r1, .int .i64 r2]) ∧ Below w.heap.size w w' := by
  have hv : lessV a b c d = (r1, r2) := Option.some.inj h
  have hk := less_ev a b c d
  rw [hv] at hk
  exact calls_of_ev mixed Try.func20 (by kernel_rfl) rfl CLess_ok (fun B' w => cn0_ok B' w _) hk rfl rfl rfl rho0 w
end Go.Proofs.Ytcheokphnhjomaa.Print
