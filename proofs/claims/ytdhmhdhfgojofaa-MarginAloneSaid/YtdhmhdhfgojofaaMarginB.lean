/- The walk of margin.Pool: a closure that appends to what it has captured. -/
import Derived.Test.YtdhmhdhfgojofaaMarginA
import Derived.Test.YtdhmhdhfgojofaaOwn1
namespace Go.Proofs.Ytdhmhdhfgojofaa.Ax
open Go Go.RowKit Go.Proofs.Ytdhmhdhfgojofaa.Print Go.Proofs.YtdhmhdhfgojofaaW.PrintWords
set_option linter.unusedVariables false
set_option linter.unusedSimpArgs false

/-! money.Sum, of a row too. -/
def cSum2 : Con := fun args lo => match args with
  | [.all id] => .obj id fun o => match o with
    | .row _ [.int .i64] l => .br (okLen l) (.ret ⟨.tup [.v (.int .i64 (smV l).1), .v (.int .i64 (smV l).2)], []⟩) .fail
    | _ => .fail
  | l => cSum l lo
theorem cSum2_ok (B) : ConOk Try.prog B 20 cSum2 := by
  intro args ρ h w lo out ids hr hrh hfr hfa up
  unfold cSum2 at hr
  split at hr
  · rename_i id
    obtain ⟨o, ids', ho, hr⟩ := obj_run hr
    split at hr
    · rename_i e l
      obtain ⟨hb, hr⟩ := br_run (h := h) hr
      cases hr
      have hl := Nat.le_of_ble_eq_true hb
      obtain ⟨A, c, h1, h2, h3⟩ := C_of_row (hrh.ok id _ ho) hl
      have hargs : (denL ρ [.all id]).toArray = #[.slice A l.length c] := by
        exact congrArg (fun v => (#[v] : Array Value)) (h1 ρ id rfl)
      rw [hargs]
      exact gives_same (s := .tup [.v (.int .i64 (smV l).1), .v (.int .i64 (smV l).2)]) (fn := Try.f20) Try.func20 (by kernel_rfl) (by kernel_rfl) hrh up (money_Sum.calls A c l _ _ w h3 h2 rfl)
    · cases hr
  · exact cSum_ok B _ ρ h w lo out ids hr hrh hfr hfa up

/-! The closure. -/
abbrev bxS (s : SV) : AObj := .cells 46 [s]
def appI (l : List Int) (a b : Int) : List Int := l ++ [a, b]
abbrev neg64 (c : Int) : Int := IntKind.i64.wrap (0 - c)
def cGather : Con := fun args lo => match args with
  | [.agg [.v (.int .i64 p), .v (.int .i64 c)], .ptr id 0] => .obj id fun o => match o with
    | .cells 46 [s] => match s with
      | .slc id1 1 0 1 (some 1) => .obj id1 fun o1 => match o1 with
        | .cells 3 [.v (.int .i64 x)] => .ret ⟨.v (.bool (dealB p c)), [(id, bxS (.all lo)), (id1, .cells 3 [.v (.int .i64 x)]), (lo, .row 3 [.int .i64] [x, p, neg64 c])]⟩
        | _ => .fail
      | .all id1 => .obj id1 fun o1 => match o1 with
        | .row 3 [.int .i64] l => .br (Nat.ble (l.length + 2) 1000000000) (.ret ⟨.v (.bool (dealB p c)), [(id, bxS (.all lo)), (id1, .dead), (lo, .row 3 [.int .i64] (appI l p (neg64 c)))]⟩) .fail
        | _ => .fail
      | _ => .fail
    | _ => .fail
  | _ => .fail
theorem gather_lit (p c x : Int) : evFn Try.prog CMarg cn0 4 Try.f19 [.agg [.v (.int .i64 p), .v (.int .i64 c)], .ptr 0 0] [(0, bxS (.slc 1 1 0 1 (some 1))), (1, .cells 3 [.v (.int .i64 x)])] 2 (KO 2) =
    some (.v (.bool (dealB p c)), [(0, bxS (.all 2)), (1, .cells 3 [.v (.int .i64 x)]), (2, .row 3 [.int .i64] [x, p, neg64 c])]) := by kernel_rfl
theorem gather_row (p c : Int) (l : List Int) : evFn Try.prog CMarg cn0 4 Try.f19 [.agg [.v (.int .i64 p), .v (.int .i64 c)], .ptr 0 0] [(0, bxS (.all 1)), (1, .row 3 [.int .i64] l)] 2 (KO 2) =
    sel (Nat.ble (l.length + 2) 1000000000) (some (.v (.bool (dealB p c)), [(0, bxS (.all 2)), (1, .dead), (2, .row 3 [.int .i64] (appI l p (neg64 c)))])) none := by kernel_rfl
theorem look2 {o0 o1 : AObj} {i : Nat} {oc : AObj} (h : look [(0, o0), (1, o1)] i = some oc) : (i = 0 ∧ oc = o0) ∨ (i = 1 ∧ oc = o1) := by
  simp only [look] at h
  by_cases e : 0 = i
  · subst e; cases h; exact .inl ⟨rfl, rfl⟩
  · rw [beq_no e] at h
    by_cases e' : 1 = i
    · subst e'; cases h; exact .inr ⟨rfl, rfl⟩
    · rw [beq_no e'] at h; cases h
/-- Two things handed on: what a callee makes of them. -/
theorem gather_gives {B : Nat → Prop} {ρ : Rho} {h : Hp} {w : World} {lo id id1 : Nat} {p c : Int} {s0 : SV} {o1 : AObj} {r : SV} {hp' : Hp} (hrh : HR B ρ h w) (hfr : HFree lo (lo + wide) h) (up : ∀ b, w.heap.size ≤ b → B b)
    (hs : s0.lt 2 = true) (ho : look h id = some (bxS (ren (fun i => cond (Nat.beq i 0) id id1) s0))) (ho1 : look h id1 = some o1) (hv : View (fun i => cond (Nat.beq i 0) id id1) o1 o1) (h1 : o1.lt 2 = true) (hne : id ≠ id1)
    (hev : evFn Try.prog CMarg cn0 4 Try.f19 [.agg [.v (.int .i64 p), .v (.int .i64 c)], .ptr 0 0] [(0, bxS s0), (1, o1)] 2 (KO 2) = some (r, hp'))
    (hown : ∀ i oc, look [(0, bxS s0), (1, o1)] i = some oc → oc.own = true → ∃ o', look hp' i = some o' ∧ (o'.own = true ∨ o' = .dead)) :
    CallGives Try.prog 19 (denL ρ [.agg [.v (.int .i64 p), .v (.int .i64 c)], .ptr id 0]).toArray w fun v w' => ∃ ρ', Made B ρ h w lo (lo + wide) ⟨ren (mr (fun i => cond (Nat.beq i 0) id id1) 2 lo) r, updGo (mr (fun i => cond (Nat.beq i 0) id id1) 2 lo) hp' hp'⟩ ρ' v w' := by
  obtain ⟨c0, hbody⟩ := Option.isSome_iff_exists.1 (show (Try.f19).body.isSome = true by kernel_rfl)
  exact con_own (B := B) mixed Try.func19 (by kernel_rfl) hbody CMarg_ok (p := 2) (fun B' w0 _ => cn0_ok B' w0 _) [.agg [.v (.int .i64 p), .v (.int .i64 c)], .ptr 0 0] (fun i => cond (Nat.beq i 0) id id1) [(0, bxS s0), (1, o1)] r hp' hev ρ h w lo hrh hfr up rfl
    (fun i oc hi => by
      rcases look2 hi with ⟨rfl, rfl⟩ | ⟨rfl, rfl⟩
      · exact ⟨by decide, by simp only [AObj.lt, ltL, hs, Bool.and_true]⟩
      · exact ⟨by decide, h1⟩)
    (fun i hi => by
      have : i = 0 ∨ i = 1 := by omega
      rcases this with rfl | rfl
      · exact (hfr id _ ho).1
      · exact (hfr id1 _ ho1).1)
    (fun i oc hi => by
      rcases look2 hi with ⟨rfl, rfl⟩ | ⟨rfl, rfl⟩
      · exact ⟨_, ho, View.own 46 [s0]⟩
      · exact ⟨_, ho1, hv⟩)
    (fun i j oc oc' hi hj hij _ => by
      rcases look2 hi with ⟨rfl, _⟩ | ⟨rfl, _⟩ <;> rcases look2 hj with ⟨rfl, _⟩ | ⟨rfl, _⟩
      · exact absurd rfl hij
      · exact hne
      · exact fun e => hne e.symm
      · exact absurd rfl hij)
    hown
theorem cGather_ok (B) : ConOk Try.prog B 19 cGather := by
  intro args ρ h w lo out ids hr hrh hfr hfa up
  unfold cGather at hr
  split at hr
  · rename_i p c id
    obtain ⟨o, ids', ho, hr⟩ := obj_run hr
    split at hr
    · rename_i s
      split at hr
      · rename_i id1
        obtain ⟨o1, ids2, ho1, hr⟩ := obj_run hr
        split at hr
        · rename_i x
          cases hr
          have hne : id ≠ id1 := fun e => by subst e; rw [ho] at ho1; cases ho1
          exact gather_gives hrh hfr up (s0 := .slc 1 1 0 1 (some 1)) rfl ho ho1 (View.own 3 [.v (.int .i64 x)]) rfl hne (gather_lit p c x) (fun i oc hi _ => by
            rcases look2 hi with ⟨rfl, _⟩ | ⟨rfl, _⟩
            · exact ⟨_, rfl, .inl rfl⟩
            · exact ⟨_, rfl, .inl rfl⟩)
        · cases hr
      · rename_i id1
        obtain ⟨o1, ids2, ho1, hr⟩ := obj_run hr
        split at hr
        · rename_i l
          obtain ⟨hb, hr⟩ := br_run (h := h) hr
          cases hr
          have hne : id ≠ id1 := fun e => by subst e; rw [ho] at ho1; cases ho1
          exact gather_gives hrh hfr up (s0 := .all 1) rfl ho ho1 (View.row _ _ _) rfl hne ((gather_row p c l).trans (by rw [show Nat.ble (List.length (α := Int) l + 2) 1000000000 = true from hb]; rfl)) (fun i oc hi _ => by
            rcases look2 hi with ⟨rfl, _⟩ | ⟨rfl, _⟩
            · exact ⟨_, rfl, .inl rfl⟩
            · exact ⟨_, rfl, .inr rfl⟩)
        · cases hr
      · cases hr
    · cases hr
  · cases hr
end Go.Proofs.Ytdhmhdhfgojofaa.Ax
