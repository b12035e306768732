/- The law PeriodRoutes: what is told behind the steps is right; its contract. -/
import Derived.Test.YtmgfaoomdpgbhaaPerRoute
import Derived.Test.YtmgfaoomdpgbhaaStep27
import Derived.Test.YtmgfaoomdpgbhaaX0
import Derived.Test.YtmgfaoomdpgbhaaAx14
import Derived.Test.YtmgfaoomdpgbhaaAx4
import Derived.Test.YtmgfaoomdpgbhaaAx8
import Derived.Test.YtmgfaoomdpgbhaaCivilA
import Derived.Test.YtmgfaoomdpgbhaaClk
import Derived.Test.YtmgfaoomdpgbhaaOwn1
import Derived.Test.YtmgfaoomdpgbhaaPerOnce
import Derived.Test.YtmgfaoomdpgbhaaPerRoute
import Derived.Test.YtmgfaoomdpgbhaaPeriodA
import Derived.Test.YtmgfaoomdpgbhaaPeriodB
import Derived.Test.YtmgfaoomdpgbhaaRef04B
import Derived.Test.YtmgfaoomdpgbhaaRef04C
import Derived.Test.YtmgfaoomdpgbhaaRef04D
import Derived.Test.YtmgfaoomdpgbhaaRowA
import Derived.Test.YtmgfaoomdpgbhaaStep27
import Derived.Test.YtmgfaoomdpgbhaaX7
namespace Go.Proofs.Ytmgfaoomdpgbhaa.Ax
open Go Go.RowKit Go.Proofs.Ytmgfaoomdpgbhaa.Print Go.Proofs.YtmgfaoomdpgbhaaW.PrintWords
set_option linter.unusedVariables false
set_option linter.unusedSimpArgs false

theorem pl_of {k y m Y I : Int} (h : goodB k Y I = true) : plV k y m k Y I = (Y - y) * manyV k + I - m := by unfold plV; rw [if_pos ⟨h, rfl⟩]
/-- The first open one has its place. -/
theorem next_place {k y m a b : Int} {N : Nat} (c : Clk k y m a b N) (hz : zeroB (frV k y m a) = false) :
    (frV k y m a).1 = k ∧ goodB k (frV k y m a).2.1 (frV k y m a).2.2 = true ∧ plV k y m k (frV k y m a).2.1 (frV k y m a).2.2 = a := by
  have hn := num_bd c.good
  have ha := c.b0
  have hb := c.ba
  have hfr : frV k y m a = ((nextV k y m a).1, (nextV k y m a).2.1, (nextV k y m a).2.2.1) := by unfold frV; rw [none_no c.kd]; rfl
  rw [hfr] at hz ⊢
  unfold nextV at hz ⊢
  rw [if_pos c.good] at hz ⊢
  by_cases hc : a < -numV k y m ∨ a ≥ 8030 * manyV k - numV k y m
  · rw [if_pos hc] at hz; cases hz
  · rw [if_neg hc]
    obtain ⟨_, _, q1, q2, q3, q4⟩ := next_num c.good (fun h => hc (.inl h)) (fun h => hc (.inr h))
    have hg : goodB k (1970 + (numV k y m + a) / manyV k) ((numV k y m + a) % manyV k + 1) = true := by rw [goodB_iff]; omega
    refine ⟨rfl, hg, ?_⟩
    show plV k y m k (1970 + (numV k y m + a) / manyV k) ((numV k y m + a) % manyV k + 1) = a
    rw [pl_of hg]
    clear hg
    unfold numV at *
    rcases c.kd with rfl | rfl
    · rw [many1] at *; omega
    · rw [many2] at *; omega
/-- What has its place ahead comes first. -/
theorem cmp_place {k y m Y I Y' I' : Int} (hk : k = 1 ∨ k = 2) (h : goodB k Y I = true) (h' : goodB k Y' I' = true) (hp : plV k y m k Y I < plV k y m k Y' I') : cmpP k Y I k Y' I' = -1 := by
  rw [pl_of h, pl_of h'] at hp
  have g := (goodB_iff k Y I).1 h
  have g' := (goodB_iff k Y' I').1 h'
  have gm := good_months h
  have gm' := good_months h'
  have key : (firstV k Y I).1 < (firstV k Y' I').1 := by
    rw [first_val h, first_val h']
    show begV Y + cumV (leapB Y) ((I - 1) * eachV k).toNat < begV Y' + cumV (leapB Y') ((I' - 1) * eachV k).toNat
    have c1 := (cum_bd (leapB Y') ((I' - 1) * eachV k).toNat).1
    by_cases e : Y = Y'
    · subst e
      have hI : I < I' := by
        rcases hk with rfl | rfl
        · rw [many1] at hp; omega
        · rw [many2] at hp; omega
      have hle : (I - 1) * eachV k + 1 ≤ (I' - 1) * eachV k := by
        have he := each_bd k
        have : (I - 1) * eachV k + eachV k ≤ (I' - 1) * eachV k := by
          have h1 : (I - 1 + 1) * eachV k ≤ (I' - 1) * eachV k := Int.mul_le_mul_of_nonneg_right (by omega) (by omega)
          rw [Int.add_mul] at h1
          omega
        omega
      have := cum_mono (leapB Y) ((I - 1) * eachV k).toNat (((I' - 1) * eachV k).toNat - ((I - 1) * eachV k).toNat) (by omega)
      rw [show ((I - 1) * eachV k).toNat + (((I' - 1) * eachV k).toNat - ((I - 1) * eachV k).toNat) = ((I' - 1) * eachV k).toNat by omega] at this
      omega
    · have hY : Y < Y' := by
        rcases hk with rfl | rfl
        · rw [many1] at *; omega
        · rw [many2] at *; omega
      have hb := beg_mono Y (Y' - Y).toNat (by omega) (by omega)
      rw [show Y + ((Y' - Y).toNat : Int) = Y' by omega] at hb
      have hc := cum_mono (leapB Y) ((I - 1) * eachV k).toNat (12 - ((I - 1) * eachV k).toNat) (by omega)
      rw [show ((I - 1) * eachV k).toNat + (12 - ((I - 1) * eachV k).toNat) = 12 by omega] at hc
      have h12 := (cum_bd (leapB Y) 12).2
      omega
  unfold cmpP cmpV
  rw [if_pos ⟨h, h'⟩, if_pos key]
theorem routeV_eq {k y m a b : Int} {N : Nat} (c : Clk k y m a b N) (d : Int) : routeV k y m a b d = bif (ofV d k).2.2.2 != 0 then ((0, 0, 0), (0, 0, 0), 30) else bif stO k y m a b d == 0 then ((0, 0, 0), (0, 0, 0), 30)
    else bif zeroB (frV k y m a) then ((0, 0, 0), (0, 0, 0), 70) else bif stO k y m a b d == 1 then (o3 d k, o3 d k, 0) else (frV k y m a, o3 d k, 0) := by
  unfold routeV; rw [none_no c.kd]; rfl
theorem fin_err (W Cm) (d k y m a b e : Int) (he : e ≠ 0) : finRt W Cm d k y m a b (0, 0, 0) (0, 0, 0) e = yes := by
  unfold finRt
  rw [show (e != 0) = true by simpa using he]; rfl
theorem fin_ok {k y m a b : Int} {N : Nat} (c : Clk k y m a b N) (hN : N ≤ 1000) (d : Int) :
    ∃ q, finRt (octroiref04_Within.f q) (octroiref04_Cmp.f q) d k y m a b (routeV k y m a b d).1 (routeV k y m a b d).2.1 (routeV k y m a b d).2.2 = yes := by
  have ha := c.an
  have hb0 := c.b0
  have hba := c.ba
  rw [routeV_eq c]
  cases h1 : ((ofV d k).2.2.2 != 0) with
  | true => exact ⟨0, fin_err _ _ _ _ _ _ _ _ 30 (by decide)⟩
  | false =>
    cases h2 : (stO k y m a b d == 0) with
    | true => exact ⟨0, fin_err _ _ _ _ _ _ _ _ 30 (by decide)⟩
    | false =>
      cases h3 : zeroB (frV k y m a) with
      | true => exact ⟨0, fin_err _ _ _ _ _ _ _ _ 70 (by decide)⟩
      | false =>
        have he : (ofV d k).2.2.2 = 0 := by simpa using h1
        have hst : stO k y m a b d ≠ 0 := by simpa using h2
        obtain ⟨hg, hk⟩ := of_good d k he
        have hw : withinV (o3 d k).1 (o3 d k).2.1 (o3 d k).2.2 d = true := of_within d k he
        obtain ⟨K1', hW⟩ := ref_within (o3 d k).1 (o3 d k).2.1 (o3 d k).2.2 d
        rw [hw] at hW
        obtain ⟨n1, n2, n3⟩ := next_place c h3
        rw [hk] at hg
        have hrg : rngB a = true := by rw [rngB_iff]; omega
        cases h4 : (stO k y m a b d == 1) with
        | true =>
          obtain ⟨K2, hC⟩ := ref_cmp (o3 d k).1 (o3 d k).2.1 (o3 d k).2.2 (o3 d k).1 (o3 d k).2.1 (o3 d k).2.2
          rw [cmpP_same] at hC
          refine ⟨K1' + K2, ?_⟩
          have e1 := hW (K1' + K2) (by omega)
          have e2 := hC (K1' + K2) (by omega)
          simp only at e1 e2
          show finRt _ _ d k y m a b (o3 d k) (o3 d k) 0 = yes
          unfold finRt
          rw [e1, e2, show stateV k y m a b (o3 d k).1 (o3 d k).2.1 (o3 d k).2.2 = stO k y m a b d from rfl, h4, same3_self']
          rfl
        | false =>
          have hst1 : stO k y m a b d ≠ 1 := by simpa using h4
          have hso : stateV k y m a b (o3 d k).1 (o3 d k).2.1 (o3 d k).2.2 = stV (plV k y m (o3 d k).1 (o3 d k).2.1 (o3 d k).2.2) a b := state_eq c.kd c.good _ _ _ _ _
          have hk3 : (o3 d k).1 = k := hk
          have h5 : stV (plV k y m (o3 d k).1 (o3 d k).2.1 (o3 d k).2.2) a b ≠ 0 := by rw [← hso]; exact hst
          have h6 : stV (plV k y m (o3 d k).1 (o3 d k).2.1 (o3 d k).2.2) a b ≠ 1 := by rw [← hso]; exact hst1
          rw [hk3] at h5 h6
          have hlt : plV k y m k (o3 d k).2.1 (o3 d k).2.2 < a := by
            unfold stV at h5 h6
            apply Decidable.byContradiction
            intro hn
            by_cases g1 : plV k y m k (o3 d k).2.1 (o3 d k).2.2 < 0
            · rw [if_pos g1] at h5; exact h5 rfl
            · rw [if_neg g1, if_neg (by omega), if_neg (by omega)] at h6; exact h6 rfl
          have hcmp : cmpP (o3 d k).1 (o3 d k).2.1 (o3 d k).2.2 (frV k y m a).1 (frV k y m a).2.1 (frV k y m a).2.2 = -1 := by
            rw [hk3, n1]
            exact cmp_place c.kd hg n2 (by rw [n3]; exact hlt)
          obtain ⟨K2, hC⟩ := ref_cmp (o3 d k).1 (o3 d k).2.1 (o3 d k).2.2 (frV k y m a).1 (frV k y m a).2.1 (frV k y m a).2.2
          rw [hcmp] at hC
          refine ⟨K1' + K2, ?_⟩
          have e1 := hW (K1' + K2) (by omega)
          have e2 := hC (K1' + K2) (by omega)
          simp only at e1 e2
          have hsp : stateV k y m a b (frV k y m a).1 (frV k y m a).2.1 (frV k y m a).2.2 = 1 := by
            rw [state_eq c.kd c.good, n1, n3]
            unfold stV
            rw [if_neg (by omega), if_neg (by omega), if_neg (by omega)]
          have hso1 : (stateV k y m a b (o3 d k).1 (o3 d k).2.1 (o3 d k).2.2 != 1) = true := by
            have : stateV k y m a b (o3 d k).1 (o3 d k).2.1 (o3 d k).2.2 ≠ 1 := hst1
            simpa using this
          show finRt _ _ d k y m a b (frV k y m a) (o3 d k) 0 = yes
          unfold finRt
          rw [e1, e2, hsp, hso1, hrg, same3_self']
          cases same3 (o3 d k) (frV k y m a) <;> rfl
where same3_self' (P : Int × Int × Int) : same3 P P = true := by unfold same3; simp
theorem LRt_true (F : Nat) (l : List I4) (hl : l.length ≤ 60) (d k y m : Int) : ∀ (n : Nat) (kk i : Nat) (a b : Int), i + n = l.length → n < kk → Clk k y m a b (2 * i) →
    ∃ q, LRt q F kk l i d k y m a b = some (.v (.bool true))
  | 0, kk, i, a, b, hi, hk, c => by
    obtain ⟨kk, rfl⟩ : ∃ q, kk = q + 1 := ⟨kk - 1, by omega⟩
    obtain ⟨q, hq⟩ := fin_ok c (by omega) d
    have ha := c.an
    have hb0 := c.b0
    have hba := c.ba
    have hrg : rngB a = true := by rw [rngB_iff]; omega
    refine ⟨q, ?_⟩
    rw [LRt_eq, decide_eq_false (show ¬ (i : Int) < (l.length : Int) by omega), hrg, hq]
    rfl
  | n + 1, kk, i, a, b, hi, hk, c => by
    obtain ⟨kk, rfl⟩ : ∃ q, kk = q + 1 := ⟨kk - 1, by omega⟩
    have hw : IntKind.i64.wrap ((i : Int) + 1) = ((i + 1 : Nat) : Int) := by rw [wi (by omega) (by omega)]; omega
    have ha := c.an
    have hb0 := c.b0
    have hba := c.ba
    have hrg : rngB a = true := by rw [rngB_iff]; omega
    have hb : ∀ P : Int × Int × Int, ∃ q, bodyRt q F kk l i d k y m a b P = some (.v (.bool true)) := fun P => by
      have c2 := (c.close (by omega) P).file (by omega) P
      unfold bodyRt
      rw [hw]
      exact LRt_true F l hl d k y m n kk (i + 1) _ _ (by omega) (by omega) (by rw [show 2 * (i + 1) = 2 * i + 1 + 1 by omega]; exact c2)
    cases hx : ((at4 l i).1 == 2) with
    | true =>
      obtain ⟨q, hq⟩ := hb (frV k y m a)
      refine ⟨q, ?_⟩
      rw [LRt_eq, decide_eq_true (show (i : Int) < (l.length : Int) by omega), decide_eq_true (show (0 : Int) ≤ (i : Int) by omega), decide_eq_true (show (i : Int).toNat < l.length by omega), hx, hrg, hq]
      rfl
    | false =>
      obtain ⟨q, hq⟩ := hb (at4 l i).2
      refine ⟨q, ?_⟩
      rw [LRt_eq, decide_eq_true (show (i : Int) < (l.length : Int) by omega), decide_eq_true (show (0 : Int) ≤ (i : Int) by omega), decide_eq_true (show (i : Int).toNat < l.length by omega), hx, hq]
      rfl
theorem routes_ev (l : List I4) (kd dd d : Int) : ∃ q, evFn Try.prog (CRt q) (cnOf 1 TRoute) 100 Try.f4 [.v (.int .i64 kd), .v (.int .i64 dd), .all 0, .v (.int .i64 d)] [(0, .arg stS l)] 1 K1 = some (.v (.bool true)) := by
  by_cases h : 60 < (l.length : Int)
  · refine ⟨0, ?_⟩
    rw [route_law_tree, decide_eq_true h]; rfl
  · cases hn : ((ofV dd kd).2.2.2 != 0 || kd == 3) with
    | true => exact ⟨0, by rw [route_law_tree, decide_eq_false h, hn]; rfl⟩
    | false =>
      obtain ⟨q, hq⟩ := LRt_true 100 l (by omega) d _ _ _ l.length 100 0 0 0 (by omega) (by omega) (clk_new hn)
      exact ⟨q, by rw [route_law_tree, decide_eq_false h, hn]; exact hq⟩
theorem routes_nil (A : Option Addr) (c : Nat) (kd dd d : Int) : ∃ q, evFn Try.prog (CRt q) (cnOf 0 TRoute) 2 Try.f4 [.v (.int .i64 kd), .v (.int .i64 dd), .v (.slice A 0 c), .v (.int .i64 d)] [] 0 K1 = some (.v (.bool true)) := by
  cases hn : ((ofV dd kd).2.2.2 != 0 || kd == 3) with
  | true => exact ⟨0, by rw [route_law_nil, hn]; rfl⟩
  | false =>
    obtain ⟨q, hq⟩ := fin_ok (clk_new hn) (by omega) d
    exact ⟨q, by rw [route_law_nil, hn, hq]; rfl⟩
end Go.Proofs.Ytmgfaoomdpgbhaa.Ax
namespace Go.Proofs.Ytmgfaoomdpgbhaa.Print
open Go Go.RowKit Go.Proofs.YtmgfaoomdpgbhaaW.PrintWords Go.Proofs.Ytmgfaoomdpgbhaa.Ax
set_option linter.unusedVariables false
set_option linter.unusedSimpArgs false
def octroilaw27_PeriodRoutes.f (a0 : Int) (a1 : Int) (l2 : List S30) (a3 : Int) : Option Bool := some true
theorem octroilaw27_PeriodRoutes.calls (a0 : Int) (a1 : Int) (A2 : Option Addr) (c2 : Nat) (l2 : List S30) (a3 : Int) (r : Bool) (w : World) (hr2 : Kd.C k30 w A2 l2.length l2) (hc2 : l2.length ≤ c2) (h : octroilaw27_PeriodRoutes.f a0 a1 l2 a3 = some r) :
    Calls Try.prog 4 #[.int .i64 a0, .int .i64 a1, .slice A2 l2.length c2, .int .i64 a3] w fun e w' => e = .returned (.bool r) ∧ Below w.heap.size w w' := by
  obtain rfl : true = r := Option.some.inj h
  by_cases hl : l2 = []
  · subst hl
    obtain ⟨q, hev⟩ := routes_nil A2 c2 a0 a1 a3
    exact calls_of_ev mixed Try.func4 (by kernel_rfl) rfl (CRt_ok q) (fun B' w => cnOf_ok (pin := 0) (T := TRoute)) hev rfl rfl rfl rho0 w
  · obtain ⟨L, h1, h2, h3, rfl, h5⟩ := arg_of_C stepT_enc rfl (by decide) hr2 hc2 hl
    obtain ⟨q, hev⟩ := routes_ev (l2.map stepT) a0 a1 a3
    have := calls_of_arg mixed Try.func4 (CRt_ok q) (fun B' w => cnOf_ok (pin := 1) (T := TRoute)) hev rfl (fun _ => L) w (h5 _)
    have hargs : (denL (fun _ => L) [.v (.int .i64 a0), .v (.int .i64 a1), .all 0, .v (.int .i64 a3)]).toArray = #[.int .i64 a0, .int .i64 a1, .slice (some ⟨L.blk, L.off, none⟩) l2.length c2, .int .i64 a3] := by
      simp only [denL, den, h1, h2, h3, Bool.false_eq_true, if_false]
    rw [hargs] at this
    exact this
end Go.Proofs.Ytmgfaoomdpgbhaa.Print
