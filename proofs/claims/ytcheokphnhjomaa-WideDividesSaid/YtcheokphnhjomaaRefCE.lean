/- The document's Ceil: it is the document's answer that wide.Ceil gives. -/
import Derived.Test.YtcheokphnhjomaaRefC
import Derived.Test.YtcheokphnhjomaaRefMD
import Derived.Test.YtcheokphnhjomaaRef02B
namespace Go.Proofs.Ytcheokphnhjomaa.Ax
open Go Go.RowKit Go.Proofs.Ytcheokphnhjomaa.Print Go.Proofs.YtcheokphnhjomaaW.PrintWords
set_option linter.unusedVariables false
set_option linter.unusedSimpArgs false

noncomputable def ceE (q t : Int) : Option SV :=
  sel (decide (t < 0)) (sel (!mayB (IntKind.i64.wrap (q + 1))) (res2I 0 3) (res2I (IntKind.i64.wrap (q + 1)) 0)) (sel (!mayB q) (res2I 0 3) (res2I q 0))
noncomputable def ceG (O : Int → Option (Bool × List Int)) (M : Bool → List Int → Bool → List Int → Option (Bool × List Int)) (C : Bool → List Int → Bool → List Int → Option Int) (G : Bool → List Int → Int → Option Int) (a b c : Int) : Option SV :=
  obnd (O a) fun y => obnd (O b) fun y_1 => sel (okLen y.snd) (sel (okLen y_1.snd)
    (obnd (M y.fst y.snd y_1.fst y_1.snd) fun y => sel (okLen y.snd)
      (obnd (G y.fst y.snd c) fun y_2 => sel (decide (y_2 < 0)) (res2I 0 3) (sel (!mayB y_2) (res2I 0 3)
        (obnd (O y_2) fun y_3 => obnd (O c) fun y_4 => sel (okLen y_3.snd) (sel (okLen y_4.snd)
          (obnd (M y_3.fst y_3.snd y_4.fst y_4.snd) fun y_5 => sel (okLen y_5.snd) (sel (okLen y.snd) (obnd (C y_5.fst y_5.snd y.fst y.snd) fun t => ceE y_2 t) none) none) none) none)))
      none) none) none
theorem ce_tree (k : Nat) (a b c : Int) : evFn Try.prog (CRefC k) cn0 8 Try.f19 [.v (.int .i64 a), .v (.int .i64 b), .v (.int .i64 c)] [] 0 K1 =
    sel (!mayB a) (res2I 0 2) (sel (!mayB b) (res2I 0 2) (sel (!mayB c) (res2I 0 2) (sel (decide (c < 1)) (res2I 0 2) (sel (decide (a < 0)) (res2I 0 2) (sel (decide (b < 0)) (res2I 0 2)
      (ceG (octroiref01_Of.f k) (octroiref01_Mul.f k) (octroiref01_Cmp.f k) (octroiref02_great.f k) a b c)))))) := by kernel_rfl
section
variable {O : Int → Option (Bool × List Int)} {M : Bool → List Int → Bool → List Int → Option (Bool × List Int)} {C : Bool → List Int → Bool → List Int → Option Int} {G : Bool → List Int → Int → Option Int} {a b c q t : Int} {n1 n2 n3 n4 n5 n6 : Bool} {l1 l2 l3 l4 l5 l6 : List Int}
theorem ce_in (k1 : okLen l1 = true) (k2 : okLen l2 = true) (k3 : okLen l3 = true) (k4 : okLen l4 = true) (k5 : okLen l5 = true) (k6 : okLen l6 = true)
    (e1 : O a = some (n1, l1)) (e2 : O b = some (n2, l2)) (e3 : M n1 l1 n2 l2 = some (n3, l3)) (e4 : G n3 l3 c = some q) (q0 : decide (q < 0) = false) (q1 : mayB q = true) (e5 : O q = some (n4, l4)) (e6 : O c = some (n5, l5)) (e7 : M n4 l4 n5 l5 = some (n6, l6)) (e8 : C n6 l6 n3 l3 = some t) :
    ceG O M C G a b c = ceE q t := by
  simp only [ceG, e1, e2, obnd_some, k1, k2, k3, k4, k5, k6, sel_true, sel_false, e3, e4, q0, q1, Bool.not_true, e5, e6, e7, e8]
theorem ce_over (k1 : okLen l1 = true) (k2 : okLen l2 = true) (k3 : okLen l3 = true)
    (e1 : O a = some (n1, l1)) (e2 : O b = some (n2, l2)) (e3 : M n1 l1 n2 l2 = some (n3, l3)) (e4 : G n3 l3 c = some q) (h : decide (q < 0) = true ∨ mayB q = false) :
    ceG O M C G a b c = res2I 0 3 := by
  simp only [ceG, e1, e2, obnd_some, k1, k2, k3, sel_true, e3, e4]
  rcases h with h | h
  · rw [h]; rfl
  · rw [h]; cases decide (q < 0) <;> rfl
end
theorem no_may {q : Int} (h : ¬ (-4611686018427387904 ≤ q ∧ q ≤ 4611686018427387904)) : mayB q = false := by
  cases hm : mayB q with
  | false => rfl
  | true => exact absurd ((mayB_iff q).1 hm) h
theorem ceE_eq (p c q t : Int) (c1 : 1 ≤ c) (hp : 0 ≤ p) (q0 : 0 ≤ q) (q1 : q ≤ 4611686018427387904) (hd : p / c = q) (ht : t < 0 ↔ q * c < p) : ceE q t = res2I (overV (upV p c) (upV p c)).1 (overV (upV p c) (upV p c)).2 := by
  have hu := up_eq p c hp (by omega)
  have hm := Int.mul_ediv_add_emod p c
  have hm0 := Int.emod_nonneg p (b := c) (by omega)
  rw [hd] at hu hm
  rw [Int.mul_comm] at hm
  generalize q * c = z at *
  unfold ceE overV
  rw [wrapI64 (by omega) (by omega)]
  by_cases hv : z < p
  · have hu' : upV p c = q + 1 := by rw [hu, if_pos (by omega)]
    rw [decide_eq_true (ht.2 hv), hu']
    simp only [sel_true]
    by_cases hb : q + 1 ≤ 4611686018427387904
    · rw [if_pos hb, (mayB_iff _).2 (by omega)]; rfl
    · rw [if_neg hb, no_may (by omega)]; rfl
  · have hu' : upV p c = q := by rw [hu, if_neg (by omega), Int.add_zero]
    rw [decide_eq_false (fun h => hv (ht.1 h)), hu', (mayB_iff q).2 (by omega), if_pos q1]
    rfl
theorem ce_ev (a b c : Int) (ha : 0 ≤ a ∧ a ≤ 4611686018427387904) (hb : 0 ≤ b ∧ b ≤ 4611686018427387904) (hc : 1 ≤ c ∧ c ≤ 4611686018427387904) :
    ∃ k, ceG (octroiref01_Of.f k) (octroiref01_Mul.f k) (octroiref01_Cmp.f k) (octroiref02_great.f k) a b c = res2I (overV (upV (a * b) c) (upV (a * b) c)).1 (overV (upV (a * b) c) (upV (a * b) c)).2 := by
  obtain ⟨n1, l1, e1, i1, b1⟩ := of_ev a (by omega) (by omega)
  obtain ⟨n2, l2, e2, i2, b2⟩ := of_ev b (by omega) (by omega)
  obtain ⟨n3, l3, e3, i3, b3⟩ := mulN_ev n1 n2 l1 l2 a b i1 i2 (by omega) (by omega)
  have c1 : l1.length ≤ 1000000 := by omega
  have c2 : l2.length ≤ 1000000 := by omega
  have c3 : l3.length ≤ 1000000 := by omega
  have p0 : 0 ≤ a * b := Int.mul_nonneg ha.1 hb.1
  generalize a * b = p at *
  have e4 := great_ev n3 l3 p c i3 c3 hc.1 hc.2 p0
  have hq := Int.mul_ediv_add_emod p c
  have hq0 := Int.emod_nonneg p (b := c) (by omega)
  have hq1 := Int.emod_lt_of_pos p (b := c) (by omega)
  have hq2 := Int.ediv_nonneg p0 (show 0 ≤ c by omega)
  have hu := up_eq p c p0 (by omega)
  by_cases hin : p / c ≤ 4611686018427387904
  · have hz : ¬ 9223372036854775807 * c < p := by
      have := Int.mul_le_mul_of_nonneg_left hin (show 0 ≤ c by omega)
      omega
    rw [if_neg hz] at e4
    generalize hqq : p / c = q at *
    obtain ⟨n4, l4, e5, i4, b4⟩ := of_ev q (by omega) (by omega)
    obtain ⟨n5, l5, e6, i5, b5⟩ := of_ev c (by omega) (by omega)
    obtain ⟨n6, l6, e7, i6, b6⟩ := mulN_ev n4 n5 l4 l5 q c i4 i5 (by omega) (by omega)
    obtain ⟨t, e8, t1, t2⟩ := cmpN_ev n6 n3 l6 l3 (q * c) p i6 i3 (by omega) (by omega)
    have c4 : l4.length ≤ 1000000 := by omega
    have c5 : l5.length ≤ 1000000 := by omega
    have c6 : l6.length ≤ 1000000 := by omega
    obtain ⟨k, f1, f2, f3, f4, f5, f6, f7, f8⟩ := ev8 e1 e2 e3 e4 e5 e6 e7 e8
    refine ⟨k, ?_⟩
    rw [ce_in (okLen_of c1) (okLen_of c2) (okLen_of c3) (okLen_of c4) (okLen_of c5) (okLen_of c6) f1 f2 f3 f4 (decide_eq_false (by omega)) ((mayB_iff q).2 (by omega)) f5 f6 f7 f8]
    exact ceE_eq p c q t hc.1 p0 hq2 hin hqq t1
  · have hgt : ¬ upV p c ≤ 4611686018427387904 := by rw [hu]; split <;> omega
    obtain ⟨k, f1, f2, f3, f4, _⟩ := ev8 e1 e2 e3 e4 e1 e1 e1 e1
    refine ⟨k, ?_⟩
    unfold overV
    rw [if_neg hgt]
    refine ce_over (okLen_of c1) (okLen_of c2) (okLen_of c3) f1 f2 f3 f4 ?_
    split
    · exact .inl rfl
    · exact .inr (no_may (by omega))
theorem refCeil_ev (a b c : Int) : ∃ k, evFn Try.prog (CRefC k) cn0 8 Try.f19 [.v (.int .i64 a), .v (.int .i64 b), .v (.int .i64 c)] [] 0 K1 = res2I (ceilV a b c).1 (ceilV a b c).2 := by
  by_cases h : rightV a b c = true ∧ 0 ≤ a ∧ 0 ≤ b
  · obtain ⟨hr, a0, b0⟩ := h
    have hv : ceilV a b c = overV (upV (a * b) c) (upV (a * b) c) := by unfold ceilV; exact if_pos ⟨hr, a0, b0⟩
    rw [rightV_iff] at hr
    obtain ⟨k, hk⟩ := ce_ev a b c (by omega) (by omega) (by omega)
    refine ⟨k, ?_⟩
    rw [ce_tree, hv, (mayB_iff a).2 (by omega), (mayB_iff b).2 (by omega), (mayB_iff c).2 (by omega), decide_eq_false (show ¬ c < 1 by omega), decide_eq_false (show ¬ a < 0 by omega), decide_eq_false (show ¬ b < 0 by omega)]
    exact hk
  · refine ⟨0, ?_⟩
    have hv : ceilV a b c = (0, 2) := by unfold ceilV; exact if_neg h
    rw [ce_tree, hv]
    have hr : rightV a b c = (mayB a && (mayB b && (mayB c && decide (1 ≤ c)))) := rfl
    rw [hr] at h
    cases h1 : mayB a with
    | false => rfl
    | true =>
      cases h2 : mayB b with
      | false => rfl
      | true =>
        cases h3 : mayB c with
        | false => rfl
        | true =>
          rw [h1, h2, h3] at h
          by_cases g1 : c < 1
          · rw [decide_eq_true g1]; rfl
          · rw [decide_eq_false g1]
            by_cases g2 : a < 0
            · rw [decide_eq_true g2]; rfl
            · rw [decide_eq_false g2]
              have g3 : b < 0 := by
                apply Decidable.byContradiction
                intro hb
                exact h ⟨by rw [decide_eq_true (show 1 ≤ c by omega)]; rfl, by omega, by omega⟩
              rw [decide_eq_true g3]; rfl

end Go.Proofs.Ytcheokphnhjomaa.Ax
namespace Go.Proofs.Ytcheokphnhjomaa.Print
open Go Go.RowKit Go.Proofs.Ytcheokphnhjomaa.Ax
def octroiref02_Ceil.f (a b c : Int) : Option (Int × Int) := some (ceilV a b c)
theorem octroiref02_Ceil.calls (a b c r1 r2 : Int) (w : World) (h : octroiref02_Ceil.f a b c = some (r1, r2)) :
    Calls Try.prog 19 #[.int .i64 a, .int .i64 b, .int .i64 c] w fun e w' => e = .returned (.tuple #[.int .i64 r1, .int .i64 r2]) ∧ Below w.heap.size w w' := by
  have hv : ceilV a b c = (r1, r2) := Option.some.inj h
  obtain ⟨k, hk⟩ := refCeil_ev a b c
  rw [hv] at hk
  exact calls_of_ev mixed Try.func19 (by kernel_rfl) rfl (CRefC_ok k) (fun B' w => cn0_ok B' w _) hk rfl rfl rfl rho0 w
end Go.Proofs.Ytcheokphnhjomaa.Print
