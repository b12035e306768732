/- The walks of package civil's functions over arrays: ahead, Len, Day, Date; in the printed functions' form. -/
import Derived.Outline
import Derived.Lib.Hide
import Derived.LoopN
import Derived.Deep.QuietTactic
import Derived.BigQuiet
import Derived.Deep.RegionHeld3
import Derived.Test.YtogmjkmnknaieaaX0
import Derived.Test.YtogmjkmnknaieaaBitsD
import Derived.Test.YtogmjkmnknaieaaX2
namespace Go.Proofs.Ytogmjkmnknaieaa.Print
open Go.RowKit Go.Proofs.YtogmjkmnknaieaaW.PrintWords Go.Proofs.YtogmjkmnknaieaaW.PrintLast Go.Proofs.YtogmjkmnknaieaaW.PrintMore
set_option linter.unusedVariables false
set_option linter.unusedSimpArgs false
def cumL (leap : Bool) : List Int := if leap = true then [0, 31, 60, 91, 121, 152, 182, 213, 244, 274, 305, 335, 366] else [0, 31, 59, 90, 120, 151, 181, 212, 243, 273, 304, 334, 365]
def cumV (leap : Bool) (m : Nat) : Int := (cumL leap).getD m 0
def arrV (leap : Bool) : Value := .agg #[.int .i64 (cumV leap 0), .int .i64 (cumV leap 1), .int .i64 (cumV leap 2), .int .i64 (cumV leap 3), .int .i64 (cumV leap 4), .int .i64 (cumV leap 5), .int .i64 (cumV leap 6), .int .i64 (cumV leap 7), .int .i64 (cumV leap 8), .int .i64 (cumV leap 9), .int .i64 (cumV leap 10), .int .i64 (cumV leap 11), .int .i64 (cumV leap 12)]
set_option maxHeartbeats 400000 in
theorem ahead_no (w : World) : Calls Try.prog 59 #[.bool false] w fun e w' => e = .returned (arrV false) ∧ Below w.heap.size w w' := by
  go_enter Try.func59, Try.ntmps59
  go_wp2
  refine bodyPost_ret (v := arrV false) (by simp [results, Try.results59, go_sem]; rfl) rfl ⟨rfl, ?_⟩
  exact ((Below.refl _ _).alloc (Nat.le_refl _) _).alloc (by simp) _
set_option maxHeartbeats 4000000 in
theorem ahead_yes (w : World) : Calls Try.prog 59 #[.bool true] w fun e w' => e = .returned (arrV true) ∧ Below w.heap.size w w' := by
  go_enter Try.func59, Try.ntmps59
  go_wp2
  refine wp_loop_rounds 12 ?_
  iterate 12 (rw [rounds_succ]; go_wp2)
  refine bodyPost_ret (v := arrV true) (by simp [results, Try.results59, go_sem]; rfl) rfl ⟨rfl, ?_⟩
  exact ((Below.refl _ _).alloc (Nat.le_refl _) _).alloc (by simp) _
theorem ahead_any (b : Bool) (w : World) : Calls Try.prog 59 #[.bool b] w fun e w' => e = .returned (arrV b) ∧ Below w.heap.size w w' := by
  cases b with
  | true => exact ahead_yes w
  | false => exact ahead_no w
def inY (y : Int) : Bool := decide (1970 ≤ y) && decide (y ≤ 9999)
def leapB (y : Int) : Bool := inY y && (decide (y % 4 = 0) && (!decide (y % 100 = 0) || decide (y % 400 = 0)))
theorem inY_iff (y : Int) : inY y = true ↔ 1970 ≤ y ∧ y ≤ 9999 := by simp [inY]
theorem inYears_eq (y : Int) : civil_inYears.f y = some (inY y) := by
  unfold civil_inYears.f inY
  by_cases h : y ≥ 1970
  · rw [if_pos h, decide_eq_true (p := 1970 ≤ y) h]; rfl
  · rw [if_neg h, decide_eq_false (p := 1970 ≤ y) h]; rfl
theorem leap_eq (y : Int) : civil_Leap.f y = some (leapB y) := by
  unfold civil_Leap.f leapB
  rw [inYears_eq]
  cases h : inY y with
  | false => simp
  | true =>
    rw [inY_iff] at h
    have h4 : Int.tmod y 4 = y % 4 := Int.tmod_eq_emod_of_nonneg (by omega)
    have h100 : Int.tmod y 100 = y % 100 := Int.tmod_eq_emod_of_nonneg (by omega)
    have h400 : Int.tmod y 400 = y % 400 := Int.tmod_eq_emod_of_nonneg (by omega)
    rw [h4, h100, h400]
    simp only [Option.bind_some, if_true]
    by_cases k4 : y % 4 = 0 <;> by_cases k1 : y % 100 = 0 <;> by_cases k2 : y % 400 = 0 <;> simp [k4, k1, k2]
def lenV (y m : Int) : Int := if inY y = true ∧ 1 ≤ m ∧ m ≤ 12 then cumV (leapB y) m.toNat - cumV (leapB y) (m.toNat - 1) else 0
theorem arr_at (b : Bool) (k : Nat) (h : k < 13) : (#[.int .i64 (cumV b 0), .int .i64 (cumV b 1), .int .i64 (cumV b 2), .int .i64 (cumV b 3), .int .i64 (cumV b 4), .int .i64 (cumV b 5), .int .i64 (cumV b 6), .int .i64 (cumV b 7), .int .i64 (cumV b 8), .int .i64 (cumV b 9), .int .i64 (cumV b 10), .int .i64 (cumV b 11), .int .i64 (cumV b 12)] : Array Value)[k]? = some (.int .i64 (cumV b k)) := by
  have : k = 0 ∨ k = 1 ∨ k = 2 ∨ k = 3 ∨ k = 4 ∨ k = 5 ∨ k = 6 ∨ k = 7 ∨ k = 8 ∨ k = 9 ∨ k = 10 ∨ k = 11 ∨ k = 12 := by omega
  rcases this with h | h | h | h | h | h | h | h | h | h | h | h | h <;> subst h <;> rfl
theorem cum_bd (b : Bool) (k : Nat) : 0 ≤ cumV b k ∧ cumV b k ≤ 366 := by
  by_cases h : k < 13
  · have : k = 0 ∨ k = 1 ∨ k = 2 ∨ k = 3 ∨ k = 4 ∨ k = 5 ∨ k = 6 ∨ k = 7 ∨ k = 8 ∨ k = 9 ∨ k = 10 ∨ k = 11 ∨ k = 12 := by omega
    rcases this with h | h | h | h | h | h | h | h | h | h | h | h | h <;> subst h <;> cases b <;> decide
  · have hl : (cumL b).length = 13 := by cases b <;> rfl
    have : cumV b k = 0 := by unfold cumV; rw [List.getD_eq_getElem?_getD, List.getElem?_eq_none (by omega)]; rfl
    omega
set_option maxHeartbeats 1000000 in
def begV (y : Int) : Int := 365 * (y - 1970) + ((y - 1) / 4 - (y - 1) / 100 + (y - 1) / 400) - 477
theorem w64c {x : Int} (h1 : -9223372036854775808 ≤ x) (h2 : x ≤ 9223372036854775807) : wrap64 x = x := by unfold wrap64; omega
theorem leaps_eq (y : Int) (h1 : 0 ≤ y) (h2 : y ≤ 100000) : civil_leaps.f y = some (y / 4 - y / 100 + y / 400) := by
  unfold civil_leaps.f
  rw [Int.tdiv_eq_ediv_of_nonneg h1, Int.tdiv_eq_ediv_of_nonneg h1, Int.tdiv_eq_ediv_of_nonneg h1, w64c (x := y / 4) (by omega) (by omega), w64c (x := y / 100) (by omega) (by omega), w64c (x := y / 400) (by omega) (by omega), w64c (x := y / 4 - y / 100) (by omega) (by omega), w64c (by omega) (by omega)]
theorem begins_eq (y : Int) (h1 : 1970 ≤ y) (h2 : y ≤ 10000) : civil_begins.f y = some (begV y) := by
  unfold civil_begins.f begV
  rw [w64c (x := y - 1) (by omega) (by omega), leaps_eq (y - 1) (by omega) (by omega), leaps_eq 1969 (by omega) (by omega)]
  simp only [Option.bind_some]
  rw [w64c (x := y - 1970) (by omega) (by omega), w64c (x := 365 * (y - 1970)) (by omega) (by omega), w64c (x := 365 * (y - 1970) + ((y - 1) / 4 - (y - 1) / 100 + (y - 1) / 400)) (by omega) (by omega), w64c (by omega) (by omega)]
  rfl
theorem beg_bd (y : Int) (h1 : 1970 ≤ y) (h2 : y ≤ 10000) : 0 ≤ begV y ∧ begV y ≤ 2932897 := by unfold begV; omega
set_option maxHeartbeats 1000000 in
def yearS : Nat → Int → Int → Int
  | 0, y, _ => y
  | f + 1, y, n => if y < 9999 ∧ begV (y + 1) ≤ n then yearS f (y + 1) n else y
def yearV (n : Int) : Int := yearS 10000 (1970 + n / 366) n
def monthS : Nat → Bool → Nat → Int → Nat
  | 0, _, m, _ => m
  | f + 1, b, m, r => if cumV b m ≤ r then monthS f b (m + 1) r else m
def monthV (b : Bool) (r : Int) : Nat := monthS 12 b 1 r
def dateV (n : Int) : Int × Int × Int × Int :=
  if 0 ≤ n ∧ n ≤ 2932896 then
    (yearV n, (monthV (leapB (yearV n)) (n - begV (yearV n)) : Int), n - begV (yearV n) - cumV (leapB (yearV n)) (monthV (leapB (yearV n)) (n - begV (yearV n)) - 1) + 1, 0)
  else (0, 0, 0, 30)
def civil_Date.f (n : Int) : Option (Int × Int × Int × Int) := some (dateV n)
def daysV (y : Int) : Int := if leapB y = true then 366 else 365
theorem beg_succ (y : Int) (h1 : 1970 ≤ y) (h2 : y ≤ 9999) : begV (y + 1) = begV y + daysV y := by
  have hy := (inY_iff y).2 ⟨h1, h2⟩
  unfold daysV leapB begV
  rw [hy, Bool.true_and]
  by_cases k4 : y % 4 = 0 <;> by_cases k1 : y % 100 = 0 <;> by_cases k2 : y % 400 = 0 <;> simp [k4, k1, k2] <;> omega
theorem beg_mono (a : Int) (d : Nat) (h1 : 1970 ≤ a) (h2 : a + d ≤ 10000) : begV a + 365 * d ≤ begV (a + d) := by
  unfold begV; omega
theorem yearS_spec (f : Nat) : ∀ (y n : Int), 1970 ≤ y → y ≤ 9999 → begV y ≤ n → n ≤ 2932896 → (9999 - y).toNat < f → 1970 ≤ yearS f y n ∧ yearS f y n ≤ 9999 ∧ begV (yearS f y n) ≤ n ∧ n < begV (yearS f y n + 1) := by
  induction f with
  | zero => intro y n _ _ _ _ h; omega
  | succ f ih =>
    intro y n h1 h2 h3 h4 h5
    simp only [yearS]
    by_cases hc : y < 9999 ∧ begV (y + 1) ≤ n
    · rw [if_pos hc]
      exact ih (y + 1) n (by omega) (by omega) hc.2 h4 (by omega)
    · rw [if_neg hc]
      refine ⟨h1, h2, h3, ?_⟩
      by_cases e : y = 9999
      · subst e
        have : begV (9999 + 1) = 2932897 := by decide +kernel
        omega
      · omega
theorem guess (n : Int) (h1 : 0 ≤ n) (h2 : n ≤ 2932896) : 1970 ≤ 1970 + n / 366 ∧ 1970 + n / 366 ≤ 9999 ∧ begV (1970 + n / 366) ≤ n := by
  unfold begV; omega
theorem year_spec (n : Int) (h1 : 0 ≤ n) (h2 : n ≤ 2932896) : 1970 ≤ yearV n ∧ yearV n ≤ 9999 ∧ begV (yearV n) ≤ n ∧ n < begV (yearV n + 1) := by
  have g := guess n h1 h2
  exact yearS_spec 10000 _ n g.1 g.2.1 g.2.2 h2 (by omega)
theorem year_unique (n y z : Int) (hy1 : 1970 ≤ y) (hy2 : y ≤ 9999) (hz1 : 1970 ≤ z) (hz2 : z ≤ 9999) (a : begV y ≤ n) (b : n < begV (y + 1)) (c : begV z ≤ n) (d : n < begV (z + 1)) : y = z := by
  rcases Int.lt_trichotomy y z with h | h | h
  · obtain ⟨k, hk⟩ := Int.eq_ofNat_of_zero_le (show 0 ≤ z - (y + 1) by omega)
    have := beg_mono (y + 1) k (by omega) (by omega)
    rw [show y + 1 + (k : Int) = z by omega] at this
    omega
  · exact h
  · obtain ⟨k, hk⟩ := Int.eq_ofNat_of_zero_le (show 0 ≤ y - (z + 1) by omega)
    have := beg_mono (z + 1) k (by omega) (by omega)
    rw [show z + 1 + (k : Int) = y by omega] at this
    omega
theorem cum_last (b : Bool) : cumV b 12 = if b = true then 366 else 365 := by cases b <;> rfl
theorem cum_first (b : Bool) : cumV b 0 = 0 := by cases b <;> rfl
theorem cum_step (b : Bool) (k : Nat) (h : k < 12) : cumV b k + 28 ≤ cumV b (k + 1) ∧ cumV b (k + 1) ≤ cumV b k + 31 := by
  have : k = 0 ∨ k = 1 ∨ k = 2 ∨ k = 3 ∨ k = 4 ∨ k = 5 ∨ k = 6 ∨ k = 7 ∨ k = 8 ∨ k = 9 ∨ k = 10 ∨ k = 11 := by omega
  rcases this with h | h | h | h | h | h | h | h | h | h | h | h <;> subst h <;> cases b <;> decide
theorem monthS_spec (f : Nat) : ∀ (b : Bool) (m : Nat) (r : Int), 1 ≤ m → m ≤ 12 → cumV b (m - 1) ≤ r → r < cumV b 12 → 12 - m < f → 1 ≤ monthS f b m r ∧ monthS f b m r ≤ 12 ∧ cumV b (monthS f b m r - 1) ≤ r ∧ r < cumV b (monthS f b m r) := by
  induction f with
  | zero => intro b m r _ _ _ _ h; omega
  | succ f ih =>
    intro b m r h1 h2 h3 h4 h5
    simp only [monthS]
    by_cases hc : cumV b m ≤ r
    · rw [if_pos hc]
      have hm : m ≠ 12 := by intro e; subst e; omega
      exact ih b (m + 1) r (by omega) (by omega) (by simpa using hc) h4 (by omega)
    · rw [if_neg hc]
      exact ⟨h1, h2, h3, by omega⟩
theorem month_spec (b : Bool) (r : Int) (h1 : 0 ≤ r) (h2 : r < cumV b 12) : 1 ≤ monthV b r ∧ monthV b r ≤ 12 ∧ cumV b (monthV b r - 1) ≤ r ∧ r < cumV b (monthV b r) :=
  monthS_spec 12 b 1 r (by omega) (by omega) (by rw [cum_first]; exact h1) h2 (by omega)
theorem cum_mono (b : Bool) (a d : Nat) (h : a + d ≤ 12) : cumV b a + 28 * d ≤ cumV b (a + d) := by
  induction d with
  | zero => simp
  | succ d ih => have := ih (by omega); have := (cum_step b (a + d) (by omega)).1; rw [← Nat.add_assoc]; omega
theorem month_unique (b : Bool) (r : Int) (x y : Nat) (hx1 : 1 ≤ x) (hx2 : x ≤ 12) (hy1 : 1 ≤ y) (hy2 : y ≤ 12) (p : cumV b (x - 1) ≤ r) (q : r < cumV b x) (s : cumV b (y - 1) ≤ r) (t : r < cumV b y) : x = y := by
  rcases Nat.lt_trichotomy x y with h | h | h
  · have := cum_mono b x (y - 1 - x) (by omega)
    rw [show x + (y - 1 - x) = y - 1 by omega] at this
    omega
  · exact h
  · have := cum_mono b y (x - 1 - y) (by omega)
    rw [show y + (x - 1 - y) = x - 1 by omega] at this
    omega
set_option maxHeartbeats 1000000 in
theorem date_no (n : Int) (w : World) (h : n < 0 ∨ ¬ (n < 0) ∧ 2932896 < n) :
    Calls Try.prog 47 #[.int .i64 n] w fun e w' => e = .returned (.tuple #[.int .i64 0, .int .i64 0, .int .i64 0, .int .i64 30]) ∧ Below w.heap.size w w' := by
  rcases h with h | ⟨h, h2⟩
  · go_enter Try.func47, Try.ntmps47
    go_wp2_with fail
    refine bodyPost_ret (v := .tuple #[.int .i64 0, .int .i64 0, .int .i64 0, .int .i64 30]) (by simp [results, Try.results47, go_sem]) rfl ⟨rfl, by repeat (first | exact Below.refl _ _ | apply pw_below_drewN)⟩
  · go_enter Try.func47, Try.ntmps47
    go_wp2_with fail
    refine bodyPost_ret (v := .tuple #[.int .i64 0, .int .i64 0, .int .i64 0, .int .i64 30]) (by simp [results, Try.results47, go_sem]) rfl ⟨rfl, by repeat (first | exact Below.refl _ _ | apply pw_below_drewN)⟩
set_option maxHeartbeats 1000000 in
theorem date_yes (n : Int) (w : World) (h1 : 0 ≤ n) (h2 : n ≤ 2932896) :
    Calls Try.prog 47 #[.int .i64 n] w fun e w' => e = .returned (.tuple #[.int .i64 (yearV n), .int .i64 (monthV (leapB (yearV n)) (n - begV (yearV n)) : Int), .int .i64 (n - begV (yearV n) - cumV (leapB (yearV n)) (monthV (leapB (yearV n)) (n - begV (yearV n)) - 1) + 1), .int .i64 0]) ∧ Below w.heap.size w w' := by
  have g := Aside0.mk (guess n h1 h2)
  go_enter Try.func47, Try.ntmps47
  go_wp2_with fail
  go_loopw [2] (fun t wr => ∃ y : Int, t = .int .i64 y ∧ 1970 ≤ y ∧ y ≤ 9999 ∧ Aside0 (begV y ≤ n) ∧ Aside0 (Below w.heap.size w wr)) (fun t _ => (9999 - intOf t).toNat)
  case atStart => exact ⟨1970 + n / 366, rfl, by omega, by omega, ⟨g.out.2.2⟩, ⟨Below.refl _ _⟩⟩
  case round =>
    obtain ⟨y, rfl, hy1, hy2, hbeg, hbel⟩ := hrel
    clear g
    have hb0 := Aside0.mk (begins_eq y (by omega) (by omega))
    have hb1 := Aside0.mk (begins_eq (y + 1) (by omega) (by omega))
    by_cases hc : y < 9999 ∧ begV (y + 1) ≤ n
    · obtain ⟨hlt, hc⟩ := hc
      go_wp2_with (first | (go_at_call 58; (with_reducible refine (civil_begins.calls (y + 1) _ _ hb1.out).mono ?_); rintro e w2 ⟨rfl, ⟨n1, rfl⟩⟩))
      go_roundw
      case rel => exact ⟨y + 1, rfl, by omega, by omega, ⟨hc⟩, ⟨pw_below_drewN hbel.out _⟩⟩
      case measure => simp [intOf]; omega
    · have hend := show n < begV (y + 1) by
        by_cases e : y = 9999
        · subst e
          have : begV (9999 + 1) = 2932897 := by decide +kernel
          omega
        · omega
      have hys := year_spec n h1 h2
      have hy := Aside0.mk (year_unique n (yearV n) y hys.1 hys.2.1 hy1 hy2 hys.2.2.1 hys.2.2.2 hbeg.out hend)
      clear hys
      have hl := Aside0.mk (leap_eq y)
      obtain ⟨b, hb⟩ : ∃ b, b = leapB y := ⟨_, rfl⟩
      rw [← hb] at hl
      have Hb := Aside0.mk hb
      clear hb
      have hbd := beg_bd y hy1 (by omega)
      have hcl := Aside0.mk (cum_last b)
      have hdv : n - begV y < cumV b 12 := by
        have := beg_succ y hy1 hy2
        unfold daysV at this
        rw [← Hb.out] at this
        rw [cum_last]
        cases b <;> simp_all <;> omega
      have hn0 : 0 ≤ n - begV y := by have := hbeg.out; omega
      have Hdv := Aside0.mk hdv
      clear hdv hend
      have hc' : ¬ (y < 9999) ∨ (y < 9999 ∧ ¬ (begV (y + 1) ≤ n)) := by omega
      clear hc
      rcases hc' with hc | ⟨hc, hd⟩
      all_goals
        go_wp2_with (first | (go_at_call 58; (with_reducible refine (civil_begins.calls (y + 1) _ _ hb1.out).mono ?_); rintro e w2 ⟨rfl, ⟨n1, rfl⟩⟩) | (go_at_call 58; (with_reducible refine (civil_begins.calls y _ _ hb0.out).mono ?_); rintro e w2 ⟨rfl, ⟨n2, rfl⟩⟩) | (go_at_call 60; (with_reducible refine (civil_Leap.calls y b _ hl.out).mono ?_); rintro e w2 ⟨rfl, ⟨n3, rfl⟩⟩) | (go_at_call 59; (with_reducible refine (ahead_any b _).mono ?_); unfold arrV; rintro e w3 ⟨rfl, hb2⟩))
        have HB := Aside0.mk (below_step (by repeat (first | exact hbel.out | apply pw_below_drewN)) hb2 : Below w.heap.size w w3)
        clear hb2
        obtain ⟨r, hr⟩ : ∃ r, r = n - begV y := ⟨_, rfl⟩
        rw [← hr] at hn0 Hdv ⊢
        have Hr := Aside0.mk hr
        clear hr
        go_loop [3] (fun t => ∃ m : Nat, t = .int .i64 m ∧ 1 ≤ m ∧ m ≤ 12 ∧ Aside0 (cumV b (m - 1) ≤ r)) (fun t => 13 - (intOf t).toNat)
        case atStart => exact ⟨1, rfl, by omega, by omega, ⟨by rw [cum_first]; exact hn0⟩⟩
        case round =>
          obtain ⟨m, rfl, hm1, hm2, hcm⟩ := hrel
          have hc1 := (blk_cell (blk_new w3 (.cells _ 98 (0, 0))) m).trans (arr_at b m (by omega))
          have hc2 := (blk_cell (blk_new w3 (.cells _ 98 (0, 0))) (m - 1)).trans (arr_at b (m - 1) (by omega))
          have hi1 : (0 : Int) ≤ (m : Int) := by omega
          have hi2 : (m : Int) < 13 := by omega
          have hi3 : (0 : Int) ≤ (m : Int) - 1 := by omega
          have hi4 : (m : Int) - 1 < 13 := by omega
          have hi5 : ((m : Int) - 1).toNat = m - 1 := by omega
          have a1 := cum_bd b m
          have a2 := cum_bd b (m - 1)
          by_cases hm : cumV b m ≤ r
          · have h12 : m ≠ 12 := by intro e; have := Hdv.out; rw [e] at hm; omega
            go_wp2_with fail
            go_round
            case rel => exact ⟨m + 1, by go_num, by omega, by omega, ⟨by simpa using hm⟩⟩
            case measure => simp [intOf]; omega
          · go_wp2_with fail
            go_quiet (fail)
            go_wp2_with fail
            have hms := month_spec b r hn0 Hdv.out
            have hmu := month_unique b r (monthV b r) m hms.1 hms.2.1 hm1 hm2 hms.2.2.1 hms.2.2.2 hcm.out (by omega)
            refine bodyPost_ret (v := .tuple #[.int .i64 y, .int .i64 (m : Int), .int .i64 (r - cumV b (m - 1) + 1), .int .i64 0]) (by simp [results, Try.results47, go_sem]) rfl ⟨?_, by repeat (first | exact HB.out | apply below_alloc | apply pw_below_drewN)⟩
            rw [hy.out, ← Hb.out, ← Hr.out, hmu]
theorem date_any (n : Int) (w : World) :
    Calls Try.prog 47 #[.int .i64 n] w fun e w' => e = .returned (.tuple #[.int .i64 (dateV n).1, .int .i64 (dateV n).2.1, .int .i64 (dateV n).2.2.1, .int .i64 (dateV n).2.2.2]) ∧ Below w.heap.size w w' := by
  unfold dateV
  by_cases h : 0 ≤ n ∧ n ≤ 2932896
  · rw [if_pos h]; exact date_yes n w h.1 h.2
  · rw [if_neg h]; exact date_no n w (by omega)
theorem civil_Date.calls (a0 : Int) (r1 : Int) (r2 : Int) (r3 : Int) (r4 : Int) (w : World) (h : civil_Date.f a0 = some (r1, r2, r3, r4)) :
    Calls Try.prog 47 #[.int .i64 a0] w fun e w' => e = .returned (.tuple #[.int .i64 r1, .int .i64 r2, .int .i64 r3, .int .i64 r4]) ∧ Below w.heap.size w w' := by
  have hv : dateV a0 = (r1, r2, r3, r4) := Option.some.inj h
  have := date_any a0 w
  rw [hv] at this; exact this
end Go.Proofs.Ytogmjkmnknaieaa.Print
