/- margin.Pool's answer, and its contract in the printed functions' form. -/
import Derived.Test.YtdhmhdhfgojofaaMarginC
import Derived.Test.YtdhmhdhfgojofaaX0
namespace Go.Proofs.Ytdhmhdhfgojofaa.Ax
open Go Go.RowKit Go.Proofs.Ytdhmhdhfgojofaa.Print Go.Proofs.YtdhmhdhfgojofaaW.PrintWords
set_option linter.unusedVariables false
set_option linter.unusedSimpArgs false

def gath : List I2 → List Int
  | [] => []
  | d :: l => d.1 :: neg64 d.2 :: gath l
def dB (d : I2) : Bool := dealB d.1 d.2
def finV (r : List Int) (bp : Int) : Int × Int × Int × Int := bif (smV r).2 != 0 then (0, 0, 0, (smV r).2) else bif decide ((smV r).1 < 0) then (0, 0, IntKind.i64.wrap (0 - (smV r).1), 0) else ((partV (smV r).1 true bp).1, (partV (smV r).1 true bp).2.1, 0, (partV (smV r).1 true bp).2.2)
def tup4 (x : Int × Int × Int × Int) : Option SV := int4 x.1 x.2.1 x.2.2.1 x.2.2.2
theorem finP_eq (r : List Int) (bp : Int) : finP (smV r) (partV (smV r).1 true bp) = tup4 (finV r bp) := by
  unfold finP finV tup4
  cases ((smV r).2 != 0) <;> cases decide ((smV r).1 < 0) <;> rfl
def poolV (l : List I2) (bp carry : Int) : Int × Int × Int × Int :=
  bif decide (1048576 < (l.length : Int)) then (0, 0, 0, 2) else bif decide (carry < 0) then (0, 0, 0, 2) else bif !mayB carry then (0, 0, 0, 2) else bif !bpB bp then (0, 0, 0, 2)
    else bif l.all dB then finV (neg64 carry :: gath l) bp else (0, 0, 0, 2)
theorem drop_at (l : List I2) (i : Nat) (h : i < l.length) : l.drop i = at2 l i :: l.drop (i + 1) := by
  rw [List.drop_eq_getElem_cons h]
  unfold at2
  rw [Int.toNat_natCast, List.getD_eq_getElem?_getD, List.getElem?_eq_getElem h, Option.getD_some]
theorem LPB_val (F : Nat) (l : List I2) (hl : l.length ≤ 1048576) (bp : Int) : ∀ (d kk i : Nat) (r : List Int), i + d = l.length → d < kk → r.length + 2 * d ≤ 100000000 →
    LPB F kk l i bp r = bif (l.drop i).all dB then tup4 (finV (r ++ gath (l.drop i)) bp) else int4 0 0 0 2
  | 0, kk, i, r, hi, hk, hr => by
    obtain ⟨kk, rfl⟩ : ∃ q, kk = q + 1 := ⟨kk - 1, by omega⟩
    rw [LPB_eq, decide_eq_false (show ¬ (i : Int) < (l.length : Int) by omega), List.drop_eq_nil_of_le (by omega), show okLen r = true from Nat.ble_eq_true_of_le (by omega), finP_eq]
    simp only [gath, List.append_nil, List.all_nil, cond_true]
    rfl
  | d + 1, kk, i, r, hi, hk, hr => by
    obtain ⟨kk, rfl⟩ : ∃ q, kk = q + 1 := ⟨kk - 1, by omega⟩
    have hw : IntKind.i64.wrap ((i : Int) + 1) = ((i + 1 : Nat) : Int) := by rw [IntKind.wrap_i64]; omega
    have ih := LPB_val F l hl bp d kk (i + 1) (appI r (at2 l i).1 (neg64 (at2 l i).2)) (by omega) (by omega) (by unfold appI; simp; omega)
    rw [LPB_eq, decide_eq_true (show (i : Int) < (l.length : Int) by omega), decide_eq_true (show (0 : Int) ≤ (i : Int) by omega), decide_eq_true (show (i : Int).toNat < l.length by omega), show Nat.ble (r.length + 2) 1000000000 = true from Nat.ble_eq_true_of_le (by omega), hw, ih, drop_at l i (by omega)]
    have ha : appI r (at2 l i).1 (neg64 (at2 l i).2) ++ gath (l.drop (i + 1)) = r ++ gath (at2 l i :: l.drop (i + 1)) := by simp [appI, gath]
    rw [ha]
    have hd : (at2 l i :: l.drop (i + 1)).all dB = (dealB (at2 l i).1 (at2 l i).2 && (l.drop (i + 1)).all dB) := rfl
    rw [hd]
    cases dealB (at2 l i).1 (at2 l i).2 <;> rfl
theorem LPA_val (F : Nat) (l : List I2) (hl : l.length ≤ 1048576) (bp x : Int) (kk : Nat) (hk : l.length < kk) : LPA F kk l 0 bp x = bif l.all dB then tup4 (finV (x :: gath l) bp) else int4 0 0 0 2 := by
  obtain ⟨kk, rfl⟩ : ∃ q, kk = q + 1 := ⟨kk - 1, by omega⟩
  cases hz : l with
  | nil =>
    rw [LPA_eq, decide_eq_false (show ¬ (0 : Int) < ((([] : List I2).length : Nat) : Int) by simp), finP_eq]
    rfl
  | cons d0 l0 =>
    rw [← hz]
    have hpos : 0 < l.length := by rw [hz]; simp
    have ih := LPB_val F l hl bp (l.length - 1) kk 1 [x, (at2 l 0).1, neg64 (at2 l 0).2] (by omega) (by omega) (by simp; omega)
    rw [LPA_eq, decide_eq_true (show (0 : Int) < (l.length : Int) by omega), decide_eq_true (show (0 : Int) ≤ 0 by omega), decide_eq_true (show (0 : Int).toNat < l.length by simpa using hpos)]
    have hw : IntKind.i64.wrap (0 + 1) = ((1 : Nat) : Int) := by decide
    rw [hw, ih]
    have hd := drop_at l 0 hpos
    rw [List.drop_zero] at hd
    have h1 : l.all dB = (dealB (at2 l 0).1 (at2 l 0).2 && (l.drop 1).all dB) := by rw [hd]; rfl
    have h2 : x :: gath l = [x, (at2 l 0).1, neg64 (at2 l 0).2] ++ gath (l.drop 1) := by
      conv => lhs; rw [hd]
      rfl
    rw [h1, h2]
    cases dealB (at2 l 0).1 (at2 l 0).2 <;> rfl
theorem pool_ev (l : List I2) (bp carry : Int) : evFn Try.prog CPool (cnOf 1 TPool) 2000000 Try.f9 [.all 0, .v (.int .i64 bp), .v (.int .i64 carry)] [(0, .arg dS l)] 1 K1 = tup4 (poolV l bp carry) := by
  rw [pool_tree]
  unfold poolV
  by_cases h : 1048576 < (l.length : Int)
  · rw [decide_eq_true h]; rfl
  · rw [decide_eq_false h]
    rw [LPA_val 2000000 l (by omega) bp (neg64 carry) 2000000 (by omega)]
    cases decide (carry < 0) <;> cases mayB carry <;> cases bpB bp <;> cases l.all dB <;> rfl
theorem pool_nil_ev (A : Option Addr) (c : Nat) (bp carry : Int) : evFn Try.prog CPool (cnOf 0 TPool) 2 Try.f9 [.v (.slice A 0 c), .v (.int .i64 bp), .v (.int .i64 carry)] [] 0 K1 = tup4 (poolV [] bp carry) := by
  rw [pool_nil]
  unfold poolV
  rw [finP_eq, decide_eq_false (show ¬ 1048576 < ((([] : List I2).length : Nat) : Int) by simp)]
  cases decide (carry < 0) <;> cases mayB carry <;> cases bpB bp <;> rfl
end Go.Proofs.Ytdhmhdhfgojofaa.Ax
namespace Go.Proofs.Ytdhmhdhfgojofaa.Print
open Go Go.RowKit Go.Proofs.YtdhmhdhfgojofaaW.PrintWords Go.Proofs.Ytdhmhdhfgojofaa.Ax
set_option linter.unusedVariables false
set_option linter.unusedSimpArgs false
def dealT (x : S38) : TT [.int .i64, .int .i64] := (x.f0, x.f1)
def dealI (x : S38) : I2 := (x.f0, x.f1)
theorem dealT_enc : ∀ (w : World) (x : S38) (c : List Value), k38.K w x c → c = enc [.int .i64, .int .i64] (dealT x) := by
  intro w x c h
  rw [k38_open h]; rfl
def margin_Pool.f (l0 : List S38) (a1 a2 : Int) : Option (Int × Int × Int × Int) := some (poolV (l0.map dealI) a1 a2)
theorem margin_Pool.calls (A0 : Option Addr) (c0 : Nat) (l0 : List S38) (a1 a2 r1 r2 r3 r4 : Int) (w : World) (hr0 : Kd.C k38 w A0 l0.length l0) (hc0 : l0.length ≤ c0) (h : margin_Pool.f l0 a1 a2 = some (r1, r2, r3, r4)) :
    Calls Try.prog 9 #[.slice A0 l0.length c0, .int .i64 a1, .int .i64 a2] w fun e w' => e = .returned (.tuple #[.int .i64 r1, .int .i64 r2, .int .i64 r3, .int .i64 r4]) ∧ Below w.heap.size w w' := by
  have hv : poolV (l0.map dealI) a1 a2 = (r1, r2, r3, r4) := Option.some.inj h
  by_cases hl : l0 = []
  · subst hl
    have hev := pool_nil_ev A0 c0 a1 a2
    rw [show poolV ([] : List I2) a1 a2 = (r1, r2, r3, r4) from hv] at hev
    exact calls_of_ev mixed Try.func9 (by kernel_rfl) rfl CPool_ok (fun B' w => cnOf_ok (pin := 0) (T := TPool)) hev rfl rfl rfl rho0 w
  · obtain ⟨L, h1, h2, h3, rfl, h5⟩ := arg_of_C dealT_enc rfl (by decide) hr0 hc0 hl
    have hev := pool_ev (l0.map dealT) a1 a2
    rw [show poolV (l0.map dealT) a1 a2 = (r1, r2, r3, r4) from hv] at hev
    have := calls_of_arg mixed Try.func9 CPool_ok (fun B' w => cnOf_ok (pin := 1) (T := TPool)) hev rfl (fun _ => L) w (h5 _)
    have hargs : (denL (fun _ => L) [.all 0, .v (.int .i64 a1), .v (.int .i64 a2)]).toArray = #[.slice (some ⟨L.blk, L.off, none⟩) l0.length c0, .int .i64 a1, .int .i64 a2] := by
      simp only [denL, den, h1, h2, h3, Bool.false_eq_true, if_false]
    rw [hargs] at this
    exact this
end Go.Proofs.Ytdhmhdhfgojofaa.Print
