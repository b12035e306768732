/- The document's MulDiv: a half away from nought; it is the document's answer that wide.MulDiv gives. -/
import Derived.Test.YtdhmhdhfgojofaaRefM
import Derived.Test.YtdhmhdhfgojofaaRef02A
namespace Go.Proofs.Ytdhmhdhfgojofaa.Ax
open Go Go.RowKit Go.Proofs.Ytdhmhdhfgojofaa.Print Go.Proofs.YtdhmhdhfgojofaaW.PrintWords
set_option linter.unusedVariables false
set_option linter.unusedSimpArgs false
def res2I (x y : Int) : Option SV := some (.tup [.v (.int .i64 x), .v (.int .i64 y)])
noncomputable def mdE (y : Bool × List Int) (y6 : Int) : Option SV :=
  sel (decide (y6 < 0)) (res2I 0 3) (sel (!mayB y6) (res2I 0 3) (sel y.1 (res2I (IntKind.i64.wrap (0 - y6)) 0) (res2I y6 0)))
noncomputable def mdG (O : Int → Option (Bool × List Int)) (M A : Bool → List Int → Bool → List Int → Option (Bool × List Int)) (H : Bool → List Int → Int → Option Int) (a b c : Int) : Option SV :=
  obnd (O a) fun y => obnd (O b) fun y_1 => sel (okLen y.snd) (sel (okLen y_1.snd)
    (obnd (M y.fst y.snd y_1.fst y_1.snd) fun y => obnd (O 2) fun y_2 => sel (okLen y.snd) (sel (okLen y_2.snd)
      (obnd (M false y.snd y_2.fst y_2.snd) fun y_3 => obnd (O c) fun y_4 => sel (okLen y_3.snd) (sel (okLen y_4.snd)
        (obnd (A y_3.fst y_3.snd y_4.fst y_4.snd) fun y_5 => sel (okLen y_5.snd) (obnd (H y_5.fst y_5.snd c) fun y_6 => mdE y y_6) none)
        none) none) none) none) none) none
theorem md_tree (k : Nat) (a b c : Int) : evFn Try.prog (CRef k) cn0 8 Try.f36 [.v (.int .i64 a), .v (.int .i64 b), .v (.int .i64 c)] [] 0 K1 =
    sel (!mayB a) (res2I 0 2) (sel (!mayB b) (res2I 0 2) (sel (!mayB c) (res2I 0 2) (sel (decide (c < 1)) (res2I 0 2) (mdG (octroiref01_Of.f k) (octroiref01_Mul.f k) (octroiref01_Add.f k) (octroiref02_half.f k) a b c)))) := by kernel_rfl
theorem okLen_of {l : List Int} (h : l.length ≤ 1000000) : okLen l = true := Nat.ble_eq_true_of_le (Nat.le_trans h (by decide))
theorem wrapI64 {x : Int} (h1 : -9223372036854775808 ≤ x) (h2 : x < 9223372036854775808) : IntKind.i64.wrap x = x := by
  rw [IntKind.wrap_i64]; omega
theorem mdE_eq (a b c : Int) (hr : rightV a b c = true) (n : Bool) (l : List Int) (hn : IsNum n l (a * b)) (y : Int)
    (hy : y = if 4611686018427387905 * (c * 2) ≤ mag a * mag b * 2 + c then -1 else (mag a * mag b * 2 + c) / (c * 2)) : mdE (n, l) y = res2I (mulDivV a b c).1 (mulDivV a b c).2 := by
  have hr' := hr
  rw [rightV_iff] at hr'
  obtain ⟨ha, hb, hc⟩ := hr'
  obtain ⟨P, hP⟩ : ∃ P, P = mag a * mag b := ⟨_, rfl⟩
  have hP0 : 0 ≤ P := by rw [hP]; exact Int.mul_nonneg (mag_nn a) (mag_nn b)
  have hh : (P * 2 + c) / (c * 2) = halfV P c := by unfold halfV; rw [Int.mul_comm P 2, Int.mul_comm c 2]
  obtain ⟨s1, s2⟩ := half_spec P c (by omega)
  have s0 := half_nn P c hP0 (by omega)
  have hneg := hn.neg
  obtain ⟨m1, m2⟩ := mag_mul a b
  unfold mulDivV
  rw [if_pos hr, ← hP]
  rw [← hP, hh] at hy
  rw [← hP] at m1
  unfold mdE overV
  by_cases hbig : 4611686018427387905 * (c * 2) ≤ P * 2 + c
  · rw [if_pos hbig] at hy
    have hgt : ¬ halfV P c ≤ 4611686018427387904 := by
      intro hle
      have : 2 * c * halfV P c ≤ 2 * c * 4611686018427387904 := Int.mul_le_mul_of_nonneg_left hle (by omega)
      omega
    rw [if_neg hgt, hy]; rfl
  · rw [if_neg hbig] at hy
    rw [hy, decide_eq_false (show ¬ halfV P c < 0 by omega)]
    simp only [sel_false]
    by_cases hle : halfV P c ≤ 4611686018427387904
    · rw [if_pos hle, (mayB_iff _).2 ⟨by omega, hle⟩]
      simp only [Bool.not_true, sel_false]
      rw [wrapI64 (by omega) (by omega), hneg]
      rcases m2 with m2 | m2
      · have : P = 0 := by rw [m1, m2]; rfl
        have hz : halfV P c = 0 := by rw [this]; unfold halfV; exact Int.ediv_eq_zero_of_lt (by omega) (by omega)
        rw [hz, m2]
        cases decide (a < 0) <;> cases decide (b < 0) <;> rfl
      · rw [m2]
        cases decide (a < 0) <;> cases decide (b < 0) <;> simp [sel_true, sel_false]
    · have : mayB (halfV P c) = false := by
        cases hm : mayB (halfV P c) with
        | false => rfl
        | true => rw [mayB_iff] at hm; omega
      rw [if_neg hle, this]; rfl
theorem md_lens {x1 x2 x3 x4 x5 x6 x7 : Nat} (b1 : x1 ≤ 3) (b2 : x2 ≤ 3) (b3 : x3 ≤ x1 + x2 + 1) (b4 : x4 ≤ 3) (b5 : x5 ≤ x3 + x4 + 1) (b6 : x6 ≤ 3) (b7 : x7 ≤ max x5 x6 + 1) :
    x1 ≤ 1000000 ∧ x2 ≤ 1000000 ∧ x3 ≤ 1000000 ∧ x4 ≤ 1000000 ∧ x5 ≤ 1000000 ∧ x6 ≤ 1000000 ∧ x7 ≤ 1000000 := by omega
theorem nn2 {p c : Int} (h : 0 ≤ p) (h2 : 1 ≤ c) : 0 ≤ p * 2 + c := by omega
theorem md_chain {O : Int → Option (Bool × List Int)} {M A : Bool → List Int → Bool → List Int → Option (Bool × List Int)} {H : Bool → List Int → Int → Option Int} {a b c y : Int} {n1 n2 n3 n4 n5 n6 n7 : Bool} {l1 l2 l3 l4 l5 l6 l7 : List Int} {R : Option SV} (k1 : okLen l1 = true) (k2 : okLen l2 = true) (k3 : okLen l3 = true) (k4 : okLen l4 = true) (k5 : okLen l5 = true) (k6 : okLen l6 = true) (k7 : okLen l7 = true)
    (e1 : O a = some (n1, l1)) (e2 : O b = some (n2, l2)) (e3 : M n1 l1 n2 l2 = some (n3, l3)) (e4 : O 2 = some (n4, l4)) (e5 : M false l3 n4 l4 = some (n5, l5)) (e6 : O c = some (n6, l6)) (e7 : A n5 l5 n6 l6 = some (n7, l7)) (e8 : H n7 l7 c = some y)
    (h : mdE (n3, l3) y = R) : mdG O M A H a b c = R := by
  simp only [mdG, e1, e2, obnd_some, k1, k2, k3, k4, k5, k6, k7, sel_true, e3, e4, e5, e6, e7, e8, h]
theorem ev8 {α1 α2 α3 α4 α5 α6 α7 α8 : Type} {g1 : Nat → Option α1} {g2 : Nat → Option α2} {g3 : Nat → Option α3} {g4 : Nat → Option α4} {g5 : Nat → Option α5} {g6 : Nat → Option α6} {g7 : Nat → Option α7} {g8 : Nat → Option α8} {x1 x2 x3 x4 x5 x6 x7 x8}
    (e1 : Ev g1 x1) (e2 : Ev g2 x2) (e3 : Ev g3 x3) (e4 : Ev g4 x4) (e5 : Ev g5 x5) (e6 : Ev g6 x6) (e7 : Ev g7 x7) (e8 : Ev g8 x8) :
    ∃ k, g1 k = some x1 ∧ g2 k = some x2 ∧ g3 k = some x3 ∧ g4 k = some x4 ∧ g5 k = some x5 ∧ g6 k = some x6 ∧ g7 k = some x7 ∧ g8 k = some x8 := by
  obtain ⟨K1, e1⟩ := e1
  obtain ⟨K2, e2⟩ := e2
  obtain ⟨K3, e3⟩ := e3
  obtain ⟨K4, e4⟩ := e4
  obtain ⟨K5, e5⟩ := e5
  obtain ⟨K6, e6⟩ := e6
  obtain ⟨K7, e7⟩ := e7
  obtain ⟨K8, e8⟩ := e8
  exact ⟨K1 + K2 + K3 + K4 + K5 + K6 + K7 + K8, e1 _ (by omega), e2 _ (by omega), e3 _ (by omega), e4 _ (by omega), e5 _ (by omega), e6 _ (by omega), e7 _ (by omega), e8 _ (by omega)⟩
theorem md_ev (a b c : Int) (hr : rightV a b c = true) : ∃ k, mdG (octroiref01_Of.f k) (octroiref01_Mul.f k) (octroiref01_Add.f k) (octroiref02_half.f k) a b c = res2I (mulDivV a b c).1 (mulDivV a b c).2 := by
  have hr' := hr
  rw [rightV_iff] at hr'
  obtain ⟨n1, l1, e1, i1, b1⟩ := of_ev a (by omega) (by omega)
  obtain ⟨n2, l2, e2, i2, b2⟩ := of_ev b (by omega) (by omega)
  obtain ⟨n3, l3, e3, i3, b3⟩ := mulN_ev n1 n2 l1 l2 a b i1 i2 (by omega) (by omega)
  obtain ⟨n4, l4, e4, i4, b4⟩ := of_ev 2 (by omega) (by omega)
  have i3' : IsNum false l3 (dval l3) := ⟨i3.dig, i3.nz, (fun h => by cases h), (by simp)⟩
  obtain ⟨n5, l5, e5, i5, b5⟩ := mulN_ev false n4 l3 l4 (dval l3) 2 i3' i4 (by omega) (by omega)
  obtain ⟨n6, l6, e6, i6, b6⟩ := of_ev c (by omega) (by omega)
  obtain ⟨n7, l7, e7, i7, b7⟩ := add_ev n5 n6 l5 l6 (dval l3 * 2) c i5 i6 (by omega) (by omega)
  obtain ⟨c1, c2, c3, c4, c5, c6, c7⟩ := md_lens b1 b2 b3 b4 b5 b6 b7
  have k1 : okLen l1 = true := okLen_of c1
  have k2 : okLen l2 = true := okLen_of c2
  have k3 : okLen l3 = true := okLen_of c3
  have k4 : okLen l4 = true := okLen_of c4
  have k5 : okLen l5 = true := okLen_of c5
  have k6 : okLen l6 = true := okLen_of c6
  have k7 : okLen l7 = true := okLen_of c7
  have hc1 : 1 ≤ c := hr'.2.2.1
  have hc2 : c ≤ 4611686018427387904 := hr'.2.2.2
  clear b1 b2 b3 b4 b5 b6 b7 hr'
  have hv : dval l3 = mag a * mag b := by rw [i3.abs, (mag_mul a b).1]
  have hP0 : 0 ≤ mag a * mag b := Int.mul_nonneg (mag_nn a) (mag_nn b)
  rw [hv] at i7
  have e8 := half_ev n7 l7 (mag a * mag b * 2 + c) c i7 c7 (nn2 hP0 hc1) hc1 hc2
  obtain ⟨k, f1, f2, f3, f4, f5, f6, f7, f8⟩ := ev8 e1 e2 e3 e4 e5 e6 e7 e8
  exact ⟨k, md_chain k1 k2 k3 k4 k5 k6 k7 f1 f2 f3 f4 f5 f6 f7 f8 (mdE_eq a b c hr n3 l3 i3 _ rfl)⟩
theorem refMulDiv_ev (a b c : Int) : ∃ k, evFn Try.prog (CRef k) cn0 8 Try.f36 [.v (.int .i64 a), .v (.int .i64 b), .v (.int .i64 c)] [] 0 K1 = some (.tup [.v (.int .i64 (mulDivV a b c).1), .v (.int .i64 (mulDivV a b c).2)]) := by
  cases hr : rightV a b c with
  | false =>
    refine ⟨0, ?_⟩
    rw [md_tree]
    have hm : mulDivV a b c = (0, 2) := by unfold mulDivV; rw [hr]; rfl
    rw [hm]
    have hr' : (mayB a && (mayB b && (mayB c && decide (1 ≤ c)))) = false := hr
    cases h1 : mayB a with
    | false => rfl
    | true =>
      cases h2 : mayB b with
      | false => rfl
      | true =>
        cases h3 : mayB c with
        | false => rfl
        | true =>
          rw [h1, h2, h3] at hr'
          simp at hr'
          rw [decide_eq_true (show c < 1 by omega)]; rfl
  | true =>
    obtain ⟨K, hK⟩ := md_ev a b c hr
    refine ⟨K, ?_⟩
    rw [md_tree]
    have hr' := hr
    rw [rightV_iff] at hr'
    rw [(mayB_iff a).2 (by omega), (mayB_iff b).2 (by omega), (mayB_iff c).2 (by omega), decide_eq_false (show ¬ c < 1 by omega)]
    exact hK
end Go.Proofs.Ytdhmhdhfgojofaa.Ax
namespace Go.Proofs.Ytdhmhdhfgojofaa.Print
open Go Go.RowKit Go.Proofs.Ytdhmhdhfgojofaa.Ax
def octroiref02_MulDiv.f (a b c : Int) : Option (Int × Int) := some (mulDivV a b c)
theorem octroiref02_MulDiv.calls (a b c r1 r2 : Int) (w : World) (h : octroiref02_MulDiv.f a b c = some (r1, r2)) :
    Calls Try.prog 36 #[.int .i64 a, .int .i64 b, .int .i64 c] w fun e w' => e = .returned (.tuple #[.int .i64 r1, .int .i64 r2]) ∧ Below w.heap.size w w' := by
  have hv : mulDivV a b c = (r1, r2) := Option.some.inj h
  obtain ⟨k, hk⟩ := refMulDiv_ev a b c
  rw [hv] at hk
  exact calls_of_ev mixed Try.func36 (by kernel_rfl) rfl (CRef_ok k) (fun B' w => cn0_ok B' w _) hk rfl rfl rfl rho0 w
end Go.Proofs.Ytdhmhdhfgojofaa.Print
