/- Plain laws of tax.Part's answer: turned about nought, at no rate, of more; no program in sight. -/
import Derived.Test.YtdhmhdhfgojofaaTaxA
namespace Go.Proofs.Ytdhmhdhfgojofaa.Ax
open Go Go.RowKit
set_option linter.unusedVariables false
set_option linter.unusedSimpArgs false

theorem smV_two (a b : Int) : smV [a, b] = Print.sumV (mayB a && mayB b) (a + b) := by
  show Print.sumV ([a, b].all Print.mayB) [a, b].sum = _
  have h1 : [a, b].all Print.mayB = (mayB a && mayB b) := by
    show (mayB a && (mayB b && true)) = _
    rw [Bool.and_true]
  have h2 : [a, b].sum = a + b := by simp
  rw [h1, h2]
theorem smV_may {a b : Int} (ha : mayB a = true) (hb : mayB b = true) : smV [a, b] = if mayB (a + b) = true then (a + b, 0) else (0, 3) := by
  rw [smV_two, ha, hb]
  show (bif mayB (a + b) then (a + b, 0) else (0, 3)) = _
  cases mayB (a + b) <;> rfl
theorem mayB_neg (a : Int) : mayB (-a) = mayB a := by
  rw [Bool.eq_iff_iff, mayB_iff, mayB_iff]; omega
theorem taxV_neg (a b : Int) : taxV (-a) b = (-(taxV a b).1, (taxV a b).2) := by
  unfold taxV
  cases bpB b with
  | false => rfl
  | true =>
    have := mulDiv_neg (-a) b 10000
    rw [Int.neg_neg] at this
    exact this
theorem insideV_neg (a b : Int) : insideV (-a) b = (-(insideV a b).1, (insideV a b).2) := by
  unfold insideV
  cases bpB b with
  | false => rfl
  | true =>
    have := mulDiv_neg (-a) b (10000 + b)
    rw [Int.neg_neg] at this
    exact this
theorem taxV_bd (a b : Int) : mayB (taxV a b).1 = true := by
  unfold taxV
  cases bpB b with
  | false => rfl
  | true => exact (mayB_iff _).2 (mulDiv_bd a b 10000)
theorem insideV_bd (a b : Int) : mayB (insideV a b).1 = true := by
  unfold insideV
  cases bpB b with
  | false => rfl
  | true => exact (mayB_iff _).2 (mulDiv_bd a b (10000 + b))
theorem wrapI (x : Int) : IntKind.i64.wrap x = wrap64 x := by rw [IntKind.wrap_i64]; unfold wrap64; omega
/-- Turned about nought, as the machine reckons it. -/
theorem partV_neg (a : Int) (g : Bool) (b : Int) (ha : mayB a = true) :
    (partV (-a) g b).2.2 = (partV a g b).2.2 ∧ (partV (-a) g b).1 = wrap64 (-(partV a g b).1) ∧ (partV (-a) g b).2.1 = wrap64 (-(partV a g b).2.1) := by
  have hb := (mayB_iff a).1 ha
  cases g with
  | true =>
    show (insV (-a) b).2.2 = (insV a b).2.2 ∧ (insV (-a) b).1 = wrap64 (-(insV a b).1) ∧ (insV (-a) b).2.1 = wrap64 (-(insV a b).2.1)
    unfold insV
    rw [insideV_neg]
    have hi := (mayB_iff _).1 (insideV_bd a b)
    generalize insideV a b = x at hi ⊢
    obtain ⟨t, e⟩ := x
    simp only at hi ⊢
    cases he : (e != 0) with
    | true => simp only [cond_true]; exact ⟨by trivial, by unfold wrap64; omega, by unfold wrap64; omega⟩
    | false =>
      simp only [cond_false, wrapI]
      refine ⟨by trivial, ?_, ?_⟩
      · unfold wrap64; omega
      · unfold wrap64; omega
  | false =>
    show (uponV (-a) b).2.2 = (uponV a b).2.2 ∧ (uponV (-a) b).1 = wrap64 (-(uponV a b).1) ∧ (uponV (-a) b).2.1 = wrap64 (-(uponV a b).2.1)
    unfold uponV
    rw [taxV_neg]
    have hm := taxV_bd a b
    have hi := (mayB_iff _).1 hm
    generalize taxV a b = x at hm hi ⊢
    obtain ⟨t, e⟩ := x
    simp only at hm hi ⊢
    cases he : (e != 0) with
    | true => simp only [cond_true]; exact ⟨by trivial, by unfold wrap64; omega, by unfold wrap64; omega⟩
    | false =>
      simp only [cond_false]
      rw [smV_may ha hm, smV_may (by rw [mayB_neg]; exact ha) (by rw [mayB_neg]; exact hm)]
      have hs : mayB (-a + -t) = mayB (a + t) := by rw [← mayB_neg (a + t)]; congr 1; omega
      rw [hs]
      cases mayB (a + t) with
      | true =>
        refine ⟨rfl, ?_, ?_⟩
        · show -a = wrap64 (-a); unfold wrap64; omega
        · show -t = wrap64 (-t); unfold wrap64; omega
      | false => exact ⟨rfl, by show (0 : Int) = wrap64 (-0); unfold wrap64; omega, by show (0 : Int) = wrap64 (-0); unfold wrap64; omega⟩
/-- What is taxed, of a whole. -/
theorem partV_whole (a : Int) (g : Bool) (b : Int) (ha : mayB a = true) (he : (partV a g b).2.2 = 0) :
    (g = true → wrap64 ((partV a g b).1 + (partV a g b).2.1) = a) ∧ (g = false → (partV a g b).1 = a) := by
  have hb := (mayB_iff a).1 ha
  cases g with
  | true =>
    refine ⟨fun _ => ?_, (fun h => by cases h)⟩
    revert he
    show (insV a b).2.2 = 0 → wrap64 ((insV a b).1 + (insV a b).2.1) = a
    unfold insV
    have hi := (mayB_iff _).1 (insideV_bd a b)
    generalize insideV a b = x at hi ⊢
    obtain ⟨t, e⟩ := x
    simp only at hi ⊢
    cases hz : (e != 0) with
    | true =>
      simp only [cond_true]
      intro h
      rw [h] at hz; cases hz
    | false =>
      intro _
      simp only [cond_false, wrapI]
      unfold wrap64; omega
  | false =>
    refine ⟨(fun h => by cases h), fun _ => ?_⟩
    revert he
    show (uponV a b).2.2 = 0 → (uponV a b).1 = a
    unfold uponV
    have hm := taxV_bd a b
    generalize taxV a b = x at hm ⊢
    obtain ⟨t, e⟩ := x
    simp only at hm ⊢
    cases hz : (e != 0) with
    | true =>
      simp only [cond_true]
      intro h
      rw [h] at hz; cases hz
    | false =>
      simp only [cond_false]
      rw [smV_may ha hm]
      cases mayB (a + t) with
      | true => intro _; rfl
      | false => intro h; cases h
theorem mulDiv_zero (a c : Int) (ha : mayB a = true) (hc : 1 ≤ c ∧ c ≤ 4611686018427387904) : mulDivV a 0 c = (0, 0) := by
  have hb := (mayB_iff a).1 ha
  have hr : rightV a 0 c = true := by rw [rightV_iff]; omega
  unfold mulDivV
  rw [if_pos hr]
  have hz : mag a * mag 0 = 0 := by simp [mag]
  have hh : halfV 0 c = 0 := by unfold halfV; exact Int.ediv_eq_zero_of_lt (by omega) (by omega)
  rw [hz, hh]
  unfold overV
  rw [if_pos (by omega)]
  split <;> rfl
theorem partV_none (a : Int) (g : Bool) (ha : mayB a = true) : partV a g 0 = (a, 0, 0) := by
  have hb := (mayB_iff a).1 ha
  cases g with
  | true =>
    show insV a 0 = _
    unfold insV insideV
    rw [show bpB 0 = true from rfl]
    simp only [cond_true, Int.add_zero]
    rw [mulDiv_zero a 10000 ha (by omega)]
    simp only [bne_self_eq_false, cond_false, wrapI, Int.sub_zero]
    rw [wrap64_id (by omega) (by omega)]
  | false =>
    show uponV a 0 = _
    unfold uponV taxV
    rw [show bpB 0 = true from rfl]
    simp only [cond_true]
    rw [mulDiv_zero a 10000 ha (by omega)]
    simp only [bne_self_eq_false, cond_false]
    rw [smV_may ha rfl, Int.add_zero, ha]
    rfl

/-! Of more, there is no less. -/
theorem half_mono (p q c : Int) (hc : 0 < c) (h : p ≤ q) : halfV p c ≤ halfV q c := by
  unfold halfV
  exact Int.ediv_le_ediv (by omega) (by omega)
theorem half_le (p c n : Int) (hc : 0 < c) (h : p ≤ c * n) : halfV p c ≤ n := by
  obtain ⟨h1, h2⟩ := half_spec p c hc
  apply Decidable.byContradiction
  intro hn
  have h3 : 2 * c * (n + 1) ≤ 2 * c * halfV p c := Int.mul_le_mul_of_nonneg_left (by omega) (by omega)
  have h4 : 2 * c * (n + 1) = 2 * (c * n) + 2 * c := by rw [Int.mul_add, Int.mul_assoc]; omega
  omega
/-- Inside a gross amount, a higher rate is no less tax. -/
theorem half_rate (a b d : Int) (ha : 0 ≤ a) (hb : 0 ≤ b) (hd : 0 ≤ d) : halfV (a * b) (10000 + b) ≤ halfV (a * (b + d)) (10000 + (b + d)) := by
  obtain ⟨h1, h2⟩ := half_spec (a * b) (10000 + b) (by omega)
  obtain ⟨k1, k2⟩ := half_spec (a * (b + d)) (10000 + (b + d)) (by omega)
  have n1 := half_nn (a * b) (10000 + b) (Int.mul_nonneg ha hb) (by omega)
  have n2 := half_nn (a * (b + d)) (10000 + (b + d)) (Int.mul_nonneg ha (by omega)) (by omega)
  generalize halfV (a * b) (10000 + b) = t at *
  generalize halfV (a * (b + d)) (10000 + (b + d)) = u at *
  apply Decidable.byContradiction
  intro hn
  have hut : u + 1 ≤ t := by omega
  -- (10000 + b)(2t - 1) ≤ 2ab
  have e1 : (10000 + b) * (2 * t - 1) ≤ 2 * (a * b) := by
    have : (10000 + b) * (2 * t - 1) = 2 * (10000 + b) * t - (10000 + b) := by
      rw [Int.mul_sub, Int.mul_one, ← Int.mul_assoc, Int.mul_comm (10000 + b) 2]
    omega
  -- 2a(b+d) < (10000 + b + d)(2u + 1)
  have e2 : 2 * (a * (b + d)) < (10000 + (b + d)) * (2 * u + 1) := by
    have : (10000 + (b + d)) * (2 * u + 1) = 2 * (10000 + (b + d)) * u + (10000 + (b + d)) := by
      rw [Int.mul_add, Int.mul_one, ← Int.mul_assoc, Int.mul_comm (10000 + (b + d)) 2]
    omega
  have e3 : (10000 + (b + d)) * (2 * u + 1) ≤ (10000 + (b + d)) * (2 * t - 1) := Int.mul_le_mul_of_nonneg_left (by omega) (by omega)
  obtain ⟨s, hs⟩ : ∃ s, s = 2 * t - 1 := ⟨_, rfl⟩
  rw [← hs] at e1 e3
  have hs1 : 1 ≤ s := by omega
  have e4 : (10000 + b) * s = 10000 * s + b * s := Int.add_mul _ _ _
  have e5 : (10000 + (b + d)) * s = 10000 * s + b * s + d * s := by rw [Int.add_mul, Int.add_mul]; omega
  have e6 : a * (b + d) = a * b + a * d := Int.mul_add _ _ _
  -- 2a ≥ s
  have e7 : s ≤ 2 * a := by
    apply Decidable.byContradiction
    intro hc
    have : 2 * a * b ≤ s * b := Int.mul_le_mul_of_nonneg_right (by omega) hb
    have e8 : 2 * a * b = 2 * (a * b) := Int.mul_assoc _ _ _
    have e9 : s * b = b * s := Int.mul_comm _ _
    omega
  have e10 : s * d ≤ 2 * a * d := Int.mul_le_mul_of_nonneg_right e7 hd
  have e11 : 2 * a * d = 2 * (a * d) := Int.mul_assoc _ _ _
  have e12 : s * d = d * s := Int.mul_comm _ _
  omega
theorem tax_le (a b : Int) (ha : 0 ≤ a) (hb : 0 ≤ b ∧ b ≤ 10000) : halfV (a * b) 10000 ≤ a := by
  refine half_le _ _ _ (by omega) ?_
  rw [Int.mul_comm 10000 a]
  exact Int.mul_le_mul_of_nonneg_left hb.2 ha
theorem ins_le (a b : Int) (ha : 0 ≤ a) (hb : 0 ≤ b ∧ b ≤ 10000) : halfV (a * b) (10000 + b) ≤ a := by
  refine half_le _ _ _ (by omega) ?_
  rw [Int.mul_comm (10000 + b) a]
  exact Int.mul_le_mul_of_nonneg_left (by omega) ha
/-- Of what is not below nought. -/
theorem partV_pos (a : Int) (g : Bool) (b : Int) (ha : 0 ≤ a) (ha2 : a ≤ 2305843009213693952) (hb : 0 ≤ b ∧ b ≤ 10000) :
    (partV a g b).2.1 = (bif g then halfV (a * b) (10000 + b) else halfV (a * b) 10000) ∧ (partV a g b).2.2 = 0 := by
  have hbp := (bpB_iff b).2 hb
  have hm : mayB a = true := (mayB_iff a).2 (by omega)
  cases g with
  | true =>
    show (insV a b).2.1 = _ ∧ (insV a b).2.2 = 0
    have hl := ins_le a b ha hb
    unfold insV insideV
    rw [hbp]
    simp only [cond_true]
    rw [mulDiv_pos a b (10000 + b) (by omega) (by omega) (by omega) (by omega)]
    exact ⟨rfl, rfl⟩
  | false =>
    show (uponV a b).2.1 = _ ∧ (uponV a b).2.2 = 0
    have hl := tax_le a b ha hb
    have hn := half_nn (a * b) 10000 (Int.mul_nonneg ha hb.1) (by omega)
    unfold uponV taxV
    rw [hbp]
    simp only [cond_true]
    rw [mulDiv_pos a b 10000 (by omega) (by omega) (by omega) (by omega)]
    simp only [bne_self_eq_false, cond_false]
    rw [smV_may hm ((mayB_iff _).2 (by omega)), (mayB_iff _).2 (by omega)]
    exact ⟨rfl, rfl⟩
/-- What is an amount, at a right rate, is never too much. -/
theorem mul_le_mag (m b : Int) (hm : 0 ≤ m) (hb : 0 ≤ b ∧ b ≤ 10000) (c : Int) (hc : 10000 ≤ c) (hbc : b ≤ c) : halfV (m * b) c ≤ m := by
  refine half_le _ _ _ (by omega) ?_
  rw [Int.mul_comm c m]
  exact Int.mul_le_mul_of_nonneg_left hbc hm
theorem mulDiv_ok (a b c : Int) (ha : mayB a = true) (hb : 0 ≤ b ∧ b ≤ 10000) (hc : 10000 ≤ c ∧ c ≤ 20000) (hbc : b ≤ c) : (mulDivV a b c).2 = 0 := by
  have h := (mayB_iff a).1 ha
  have hr : rightV a b c = true := by rw [rightV_iff]; omega
  unfold mulDivV
  rw [if_pos hr]
  have m1 := mag_bd h
  have m2 : mag b = b := by unfold mag; rw [if_neg (by omega)]
  rw [m2]
  have := mul_le_mag (mag a) b m1.1 hb c hc.1 hbc
  unfold overV
  rw [if_pos (by omega)]
theorem taxV_ok (a b : Int) (ha : mayB a = true) (hb : bpB b = true) : (taxV a b).2 = 0 := by
  have h := (bpB_iff b).1 hb
  unfold taxV
  rw [hb]
  exact mulDiv_ok a b 10000 ha h (by omega) (by omega)
theorem insideV_ok (a b : Int) (ha : mayB a = true) (hb : bpB b = true) : (insideV a b).2 = 0 := by
  have h := (bpB_iff b).1 hb
  unfold insideV
  rw [hb]
  exact mulDiv_ok a b (10000 + b) ha h (by omega) (by omega)
theorem mulDiv_no (a b c : Int) (h : (mayB a && mayB b && mayB c && decide (1 ≤ c)) = false) : mulDivV a b c = (0, 2) := by
  have : rightV a b c = false := by
    unfold rightV
    cases h1 : mayB a <;> cases h2 : mayB b <;> cases h3 : mayB c <;> cases h4 : decide (1 ≤ c) <;> rw [h1, h2, h3, h4] at h <;> first | rfl | cases h
  unfold mulDivV
  rw [this]; rfl

end Go.Proofs.Ytdhmhdhfgojofaa.Ax
