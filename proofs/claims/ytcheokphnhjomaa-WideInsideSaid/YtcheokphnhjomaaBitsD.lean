/- The contract of math/bits.Div64: the quotient, and what is left. -/
import Derived.Test.YtcheokphnhjomaaBitsC
namespace Go.Proofs.Ytcheokphnhjomaa.Ax
open Go Go.RowKit
set_option linter.unusedVariables false
set_option linter.unusedSimpArgs false

theorem w64_in (x : Int) (h0 : 0 ≤ x) (h1 : x < 18446744073709551616) : IntKind.u64.wrap x = x := by rw [wrapU64]; omega
theorem digit_loop {v1 v0 U n : Int} (d : Dg v1 v0 U n) (L : Nat → Int → Int → Option SV) (post : Int → Option SV)
    (heq : ∀ k q r, L (k + 1) q r = sel (decide (4294967296 ≤ q))
      (sel (decide (4294967296 ≤ IntKind.u64.wrap (r + v1))) (post (IntKind.u64.wrap (q - 1))) (L k (IntKind.u64.wrap (q - 1)) (IntKind.u64.wrap (r + v1))))
      (sel (decide (IntKind.u64.wrap (IntKind.u64.wrap (4294967296 * r) + n) < IntKind.u64.wrap (q * v0)))
        (sel (decide (4294967296 ≤ IntKind.u64.wrap (r + v1))) (post (IntKind.u64.wrap (q - 1))) (L k (IntKind.u64.wrap (q - 1)) (IntKind.u64.wrap (r + v1))))
        (post q))) (q r : Int) (v : Iv v1 v0 U n q r) : L 3 q r = post (qtV v1 v0 U n) := by
  have hb := qt_bd d
  have step : ∀ k q r, Iv v1 v0 U n q r → L (k + 1) q r = post (qtV v1 v0 U n) ∨ (Iv v1 v0 U n (q - 1) (r + v1) ∧ L (k + 1) q r = L k (q - 1) (r + v1)) := by
    intro k q r v
    have c1 := d.v1l
    have c2 := d.v1u
    have c3 := d.v0l
    have c4 := d.v0u
    have c5 := d.nl
    have c6 := d.nu
    have k1 := v.qge
    have k2 := v.qle
    have k3 := v.rl
    have k4 := v.ru
    have w1 : IntKind.u64.wrap (r + v1) = r + v1 := w64_in _ (by omega) (by omega)
    have more : qtV v1 v0 U n < q → sel (decide (4294967296 ≤ IntKind.u64.wrap (r + v1))) (post (IntKind.u64.wrap (q - 1))) (L k (IntKind.u64.wrap (q - 1)) (IntKind.u64.wrap (r + v1))) = post (qtV v1 v0 U n) ∨
        (Iv v1 v0 U n (q - 1) (r + v1) ∧ sel (decide (4294967296 ≤ IntKind.u64.wrap (r + v1))) (post (IntKind.u64.wrap (q - 1))) (L k (IntKind.u64.wrap (q - 1)) (IntKind.u64.wrap (r + v1))) = L k (q - 1) (r + v1)) := by
      intro hq
      have w2 : IntKind.u64.wrap (q - 1) = q - 1 := w64_in _ (by omega) (by omega)
      rw [w1, w2]
      by_cases hr : 4294967296 ≤ r + v1
      · left
        rw [decide_eq_true hr, sel_true, iv_brk d v hq hr]
      · right
        exact ⟨iv_next d v hq (by omega), by rw [decide_eq_false hr, sel_false]⟩
    rw [heq]
    by_cases h1 : 4294967296 ≤ q
    · rw [decide_eq_true h1, sel_true]
      exact more (iv_more d v (.inl h1))
    · rw [decide_eq_false h1, sel_false]
      have hq0 : 0 ≤ q * v0 := Int.mul_nonneg (by omega) c3
      have hq1 : q * v0 ≤ 4294967295 * 4294967295 := Int.mul_le_mul (by omega) (by omega) c3 (by omega)
      have w3 : IntKind.u64.wrap (4294967296 * r) = 4294967296 * r := w64_in _ (by omega) (by omega)
      have w4 : IntKind.u64.wrap (4294967296 * r + n) = 4294967296 * r + n := w64_in _ (by omega) (by omega)
      have w5 : IntKind.u64.wrap (q * v0) = q * v0 := w64_in _ hq0 (by omega)
      rw [w3, w4, w5]
      by_cases h2 : 4294967296 * r + n < q * v0
      · rw [decide_eq_true h2, sel_true]
        exact more (iv_more d v (.inr h2))
      · rw [decide_eq_false h2, sel_false]
        left
        rw [iv_done d v h2]
  have c1 := d.v1l
  rcases step 2 q r v with h | ⟨v1', h⟩
  · exact h
  · rw [h]
    rcases step 1 _ _ v1' with h' | ⟨v2', h'⟩
    · exact h'
    · rw [h']
      rcases step 0 _ _ v2' with h'' | ⟨v3', h''⟩
      · exact h''
      · have := v3'.ru
        have := v2'.rl
        have := v1'.rl
        have := v.rl
        omega

def divQ (a b c : Int) : Int := (a * 18446744073709551616 + b) / c
def divR (a b c : Int) : Int := (a * 18446744073709551616 + b) % c
def divOk (a b c : Int) : Bool := decide (0 ≤ a) && (decide (a < c) && (u64B b && u64B c))

theorem start_eq {v1 U : Int} (h1 : 2147483648 ≤ v1) (h2 : v1 < 4294967296) (h3 : 0 ≤ U) (h4 : U < 18446744073709551616) :
    IntKind.u64.wrap (U.tdiv v1) = U / v1 ∧ IntKind.u64.wrap (U - IntKind.u64.wrap (IntKind.u64.wrap (U.tdiv v1) * v1)) = U - U / v1 * v1 := by
  have e : U.tdiv v1 = U / v1 := Int.tdiv_eq_ediv_of_nonneg h3
  have b1 : 0 ≤ U / v1 := Int.ediv_nonneg h3 (by omega)
  have b2 : U / v1 ≤ U := Int.ediv_le_self _ h3
  have b3 : U / v1 * v1 ≤ U := Int.ediv_mul_le _ (by omega)
  have b4 : 0 ≤ U / v1 * v1 := Int.mul_nonneg b1 (by omega)
  have e2 : IntKind.u64.wrap (U / v1) = U / v1 := w64_in _ b1 (by omega)
  rw [e, e2, w64_in (U / v1 * v1) b4 (by omega), w64_in _ (by omega) (by omega)]
  exact ⟨rfl, rfl⟩

/-- The divisor at the top, and what is divided with it. -/
structure Nrm (a b c : Int) (s : Nat) (p Y U V : Int) : Prop where
  s63 : s ≤ 63
  pe : p = 2 ^ s
  pp : 0 < p
  sd : sD c = (s : Int)
  yd : yD c = Y
  ud : u32D a b c = U
  vd : u10D b c = V
  ye : c * p = Y
  yl : 9223372036854775808 ≤ Y
  yu : Y < 18446744073709551616
  ul : 0 ≤ U
  uy : U < Y
  vl : 0 ≤ V
  vu : V < 18446744073709551616
  whole : U * 18446744073709551616 + V = (a * 18446744073709551616 + b) * p
theorem nrm (a b c : Int) (ha : 0 < a) (hac : a < c) (hb0 : 0 ≤ b) (hb1 : b < 18446744073709551616) (hc1 : c < 18446744073709551616) : ∃ s p Y U V, Nrm a b c s p Y U V := by
  obtain ⟨s, s1, s2, s3, s4⟩ := lz_spec c (by omega) hc1
  have hp : (0 : Int) < 2 ^ s := Int.pow_pos (by decide)
  -- the power and what makes the whole with it
  obtain ⟨p, hpe⟩ : ∃ p : Int, p = 2 ^ s := ⟨_, rfl⟩
  obtain ⟨p', hpe'⟩ : ∃ p' : Int, p' = 2 ^ (64 - s) := ⟨_, rfl⟩
  have hp' : 0 < p' := by rw [hpe']; exact Int.pow_pos (by decide)
  have hpp : p * p' = 18446744073709551616 := by
    rw [hpe, hpe', ← Int.pow_add, show s + (64 - s) = 64 by omega]; rfl
  rw [← hpe] at s3 s4 hp
  have esD : sD c = (s : Int) := by unfold sD; rw [s2, w64_in _ (by omega) (by omega)]
  have emin : min (sD c).toNat IntKind.u64.bits = s := by rw [esD, Int.toNat_natCast]; show min s 64 = s; omega
  have eyD : yD c = c * p := by unfold yD; rw [emin, ← hpe, w64_in _ (by omega) s4]
  have e64 : IntKind.u64.wrap (64 - sD c) = 64 - (s : Int) := by rw [esD, w64_in _ (by omega) (by omega)]
  have emin' : min (IntKind.u64.wrap (64 - sD c)).toNat IntKind.u64.bits = 64 - s := by
    rw [e64]; show min (64 - (s : Int)).toNat 64 = 64 - s; omega
  have hap : a * p < 18446744073709551616 := by
    have : a * p ≤ (c - 1) * p := Int.mul_le_mul_of_nonneg_right (by omega) (by omega)
    rw [Int.sub_mul, Int.one_mul] at this
    omega
  have hap0 : 0 ≤ a * p := Int.mul_nonneg (by omega) (by omega)
  have ebs : b.fdiv (2 ^ (64 - s)) = b / p' := by rw [← hpe']; exact Int.fdiv_eq_ediv_of_nonneg _ (by omega)
  have hbp0 : 0 ≤ b / p' := Int.ediv_nonneg hb0 (by omega)
  have hbp1 : b / p' < p := Int.ediv_lt_of_lt_mul hp' (by rw [hpp]; exact hb1)
  have hp64 : p < 18446744073709551616 := by
    have : 1 * p ≤ c * p := Int.mul_le_mul_of_nonneg_right (by omega) (by omega)
    omega
  have eu32 : u32D a b c = a * p + b / p' := by
    unfold u32D
    rw [emin, emin', ebs, ← hpe, w64_in _ hap0 hap]
    refine bits_join .u64 64 (by decide) wraps_u64 s _ _ hap0 ?_ (by omega) hbp0 (by rw [← hpe]; exact hbp1) (by omega)
    rw [← hpe]
    exact Int.mul_emod_left _ _
  have eu10 : u10D b c = b * p % 18446744073709551616 := by unfold u10D; rw [emin, ← hpe, wrapU64]
  -- the whole, taken by the power
  have hbq : b * p / 18446744073709551616 = b / p' := by
    rw [← hpp, Int.mul_comm b p]
    exact Int.mul_ediv_mul_of_pos _ _ hp
  have whole : u32D a b c * 18446744073709551616 + u10D b c = (a * 18446744073709551616 + b) * p := by
    rw [eu32, eu10]
    have e1 : (a * 18446744073709551616 + b) * p = a * p * 18446744073709551616 + b * p := by
      rw [Int.add_mul, Int.mul_assoc, Int.mul_comm 18446744073709551616 p, ← Int.mul_assoc]
    rw [e1, ← hbq]
    omega
  have hu32 : u32D a b c < c * p := by
    rw [eu32]
    have : a * p + p ≤ c * p := by
      have : (a + 1) * p ≤ c * p := Int.mul_le_mul_of_nonneg_right (by omega) (by omega)
      rwa [Int.add_mul, Int.one_mul] at this
    omega
  have hu320 : 0 ≤ u32D a b c := by rw [eu32]; omega
  have hu10 : 0 ≤ u10D b c ∧ u10D b c < 18446744073709551616 := by rw [eu10]; omega
  exact ⟨s, p, c * p, _, _, s1, hpe, hp, esD, eyD, rfl, rfl, rfl, s3, s4, hu320, hu32, hu10.1, hu10.2, whole⟩

/-- Both digits. -/
theorem div_loops (Y U V : Int) (s : Nat) (hs : s ≤ 63) (yl : 9223372036854775808 ≤ Y) (yu : Y < 18446744073709551616) (ul : 0 ≤ U) (uy : U < Y) (vl : 0 ≤ V) (vu : V < 18446744073709551616) :
    LD1 3 3 (U / (Y / 4294967296)) (U - U / (Y / 4294967296) * (Y / 4294967296)) Y s (Y / 4294967296) (Y % 4294967296) U (V / 4294967296) (V % 4294967296) =
      some (.tup [.v (.int .u64 ((U * 18446744073709551616 + V) / Y)), .v (.int .u64 (((U * 18446744073709551616 + V) % Y) / 2 ^ s))]) := by
  have d1 : Dg (Y / 4294967296) (Y % 4294967296) U (V / 4294967296) := ⟨by omega, by omega, by omega, by omega, by omega, by omega, ul, by omega⟩
  have hYY : Y / 4294967296 * 4294967296 + Y % 4294967296 = Y := by omega
  have c4 : decide ((s : Int) < 0) = false := decide_eq_false (by omega)
  have c6 : decide (Y / 4294967296 = 0) = false := decide_eq_false (by omega)
  refine (digit_loop d1 (fun k q r => LD1 3 k q r Y s (Y / 4294967296) (Y % 4294967296) U (V / 4294967296) (V % 4294967296)) (fun q => postD 3 q Y s (Y / 4294967296) (Y % 4294967296) U (V / 4294967296) (V % 4294967296)) (fun k q r => LD1_eq 3 k q r _ _ _ _ _ _ _) _ _ (iv_start d1)).trans ?_
  have hl1 := left_eq d1
  rw [hYY] at hl1
  obtain ⟨N, hN⟩ : ∃ N, N = U * 4294967296 + V / 4294967296 := ⟨_, rfl⟩
  rw [← hN] at hl1
  have hYpos : 0 < Y := by omega
  have m0 := Int.emod_nonneg N (show Y ≠ 0 by omega)
  have m1 := Int.emod_lt_of_pos N hYpos
  have eun : un21V (qtV (Y / 4294967296) (Y % 4294967296) U (V / 4294967296)) Y U (V / 4294967296) = N % Y := by
    unfold un21V
    rw [wrap_left N (qtV (Y / 4294967296) (Y % 4294967296) U (V / 4294967296) * Y) Y (by omega) (by omega) (by omega) U (V / 4294967296) hN]
    exact hl1
  show postD 3 (qtV (Y / 4294967296) (Y % 4294967296) U (V / 4294967296)) Y s (Y / 4294967296) (Y % 4294967296) U (V / 4294967296) (V % 4294967296) = _
  unfold postD
  rw [eun, c6, sel_false]
  have d2 : Dg (Y / 4294967296) (Y % 4294967296) (N % Y) (V % 4294967296) := ⟨d1.v1l, d1.v1u, d1.v0l, d1.v0u, by omega, by omega, m0, by omega⟩
  obtain ⟨g3, g4⟩ := start_eq (v1 := Y / 4294967296) (U := N % Y) d1.v1l d1.v1u m0 (by omega)
  rw [g4, g3]
  refine (digit_loop d2 (fun k q r => LD2 3 k q r Y s (Y / 4294967296) (Y % 4294967296) (V % 4294967296) (qtV (Y / 4294967296) (Y % 4294967296) U (V / 4294967296)) (N % Y)) (fun q => finD q Y s (V % 4294967296) (qtV (Y / 4294967296) (Y % 4294967296) U (V / 4294967296)) (N % Y)) (fun k q r => LD2_eq 3 k q r _ _ _ _ _ _ _) _ _ (iv_start d2)).trans ?_
  have hl2 := left_eq d2
  rw [hYY] at hl2
  obtain ⟨N2, hN2⟩ : ∃ N2, N2 = N % Y * 4294967296 + V % 4294967296 := ⟨_, rfl⟩
  rw [← hN2] at hl2
  have m2 := Int.emod_nonneg N2 (show Y ≠ 0 by omega)
  have m3 := Int.emod_lt_of_pos N2 hYpos
  have q1e : qtV (Y / 4294967296) (Y % 4294967296) U (V / 4294967296) = N / Y := by unfold qtV; rw [hYY, ← hN]
  have q2e : qtV (Y / 4294967296) (Y % 4294967296) (N % Y) (V % 4294967296) = N2 / Y := by unfold qtV; rw [hYY, ← hN2]
  have b1 := qt_bd d1
  have b2 := qt_bd d2
  show finD (qtV (Y / 4294967296) (Y % 4294967296) (N % Y) (V % 4294967296)) Y s (V % 4294967296) (qtV (Y / 4294967296) (Y % 4294967296) U (V / 4294967296)) (N % Y) = _
  unfold finD
  rw [c4, sel_false, wrap_left N2 (qtV (Y / 4294967296) (Y % 4294967296) (N % Y) (V % 4294967296) * Y) Y (by omega) (by omega) (by omega) (N % Y) (V % 4294967296) hN2, hl2]
  rw [q1e] at b1 ⊢
  rw [q2e] at b2 ⊢
  rw [w64_in (N / Y * 4294967296) (by omega) (by omega), w64_in _ (by omega) (by omega)]
  obtain ⟨t1, t2⟩ := two_digits N Y (V % 4294967296) hYpos
  have hT : N * 4294967296 + V % 4294967296 = U * 18446744073709551616 + V := by rw [hN]; omega
  rw [← hN2, hT] at t1 t2
  have hmin : min (s : Int).toNat IntKind.u64.bits = s := by rw [Int.toNat_natCast]; show min s 64 = s; omega
  rw [hmin, Int.fdiv_eq_ediv_of_nonneg _ (Int.le_of_lt (Int.pow_pos (by decide))), t1, t2]

theorem div_digits (a b c : Int) (ha : 0 < a) (hac : a < c) (hb0 : 0 ≤ b) (hb1 : b < 18446744073709551616) (hc1 : c < 18446744073709551616) :
    evFn Try.prog CLz (cnOf 0 TDiv) 3 Try.f40 [.v (.int .u64 a), .v (.int .u64 b), .v (.int .u64 c)] [] 0 K1 = some (.tup [.v (.int .u64 (divQ a b c)), .v (.int .u64 (divR a b c))]) := by
  obtain ⟨s, p, Y, U, V, n⟩ := nrm a b c ha hac hb0 hb1 hc1
  have c0 : (c == 0) = false := by simp; omega
  have c1 : decide (c ≤ a) = false := decide_eq_false (by omega)
  have c2 : (a == 0) = false := by simp; omega
  have c3 : u64B c = true := by rw [u64B_iff]; omega
  have c4 : decide ((s : Int) < 0) = false := decide_eq_false (by omega)
  have c5 : decide (IntKind.u64.wrap (64 - (s : Int)) < 0) = false := decide_eq_false (by have := n.s63; rw [w64_in _ (by omega) (by omega)]; omega)
  have c6 : decide (Y / 4294967296 = 0) = false := decide_eq_false (by have := n.yl; omega)
  have ey1 : y1D c = Y / 4294967296 := by unfold y1D; rw [n.yd, sh32]
  have hyl := n.yl
  have hyu := n.yu
  have huy := n.uy
  have hul := n.ul
  have ey0 : bits .and .u64 Y 4294967295 = Y % 4294967296 := and32 _ (by omega) n.yu
  have ev0 : bits .and .u64 V 4294967295 = V % 4294967296 := and32 _ n.vl n.vu
  obtain ⟨g1, g2⟩ := start_eq (v1 := Y / 4294967296) (U := U) (by omega) (by omega) hul (by omega)
  rw [div_tree, n.sd, ey1, n.yd, n.ud, n.vd, sh32, ey0, ev0, c0, c1, c2, c3, c4, c5, c6, g2, g1, sel_false, sel_false, sel_false, sel_true, sel_false, sel_false, sel_false, sel_false, sel_false,
    div_loops Y U V s n.s63 n.yl n.yu n.ul n.uy n.vl n.vu, n.whole, ← n.ye, ← n.pe]
  obtain ⟨r1, r2⟩ := shifted a b c 0 p n.pp (by omega)
  rw [r1, r2]
  rfl

def cDiv : Con := fun args _ => match args with
  | [.v (.int .u64 a), .v (.int .u64 b), .v (.int .u64 c)] => .br (divOk a b c) (.ret ⟨.tup [.v (.int .u64 (divQ a b c)), .v (.int .u64 (divR a b c))], []⟩) .fail
  | _ => .fail
theorem cDiv_ok : ∀ B, ConOk Try.prog B 40 cDiv := con_pure (F := 3) mixed Try.func40 (by kernel_rfl) rfl CLz_ok (fun B' w => cnOf_ok (pin := 0) (T := TDiv)) (by
  intro args lo h out ids hr
  unfold cDiv at hr
  split at hr
  · rename_i a b c
    obtain ⟨hb, hr⟩ := br_run hr
    cases hr
    refine ⟨rfl, rfl, ?_⟩
    simp only [divOk, Bool.and_eq_true, u64B_iff, decide_eq_true_eq] at hb
    obtain ⟨h1, h2, ⟨h3, h4⟩, h5, h6⟩ := hb
    by_cases ha : a = 0
    · subst ha
      have c0 : (c == 0) = false := by simp; omega
      have c1 : decide (c ≤ 0) = false := decide_eq_false (by omega)
      have c2 : decide (c = 0) = false := decide_eq_false (by omega)
      have e1 : IntKind.u64.wrap (b.tdiv c) = divQ 0 b c := by
        have k1 : 0 ≤ b / c := Int.ediv_nonneg h3 (by omega)
        have k2 : b / c ≤ b := Int.ediv_le_self _ h3
        rw [Int.tdiv_eq_ediv_of_nonneg h3, w64_in _ k1 (by omega)]
        unfold divQ
        rw [Int.zero_mul, Int.zero_add]
      have e2 : b.tmod c = divR 0 b c := by
        rw [Int.tmod_eq_emod_of_nonneg h3]
        unfold divR
        rw [Int.zero_mul, Int.zero_add]
      rw [div_tree, c0, c1, c2, e1, e2]
      rfl
    · exact div_digits a b c (by omega) h2 h3 h4 h6
  · cases hr)

end Go.Proofs.Ytcheokphnhjomaa.Ax
