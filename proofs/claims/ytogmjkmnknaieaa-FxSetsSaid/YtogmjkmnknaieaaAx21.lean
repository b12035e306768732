/- AX 21: what the evaluator tells, it tells on: contracts that are the evaluator's own (a callee walked in its caller's walk). -/
import Derived.Test.YtogmjkmnknaieaaAx14
import Derived.Test.YtogmjkmnknaieaaWWords
import Derived.Test.YtogmjkmnknaieaaAx20
namespace Go.Proofs.Ytogmjkmnknaieaa.Ax
open Go Go.RowKit Go.Proofs.YtogmjkmnknaieaaW.PrintWords
set_option linter.unusedVariables false
set_option linter.unusedSimpArgs false
theorem flat_int (k : IntKind) (l : List Int) : flat [.int k] l = l.map (Value.int k) := by
  show ((l.map fun x : Int => [Value.int k x]).flatten) = _
  induction l with
  | nil => rfl
  | cons x l ih => simp [ih]
theorem row_of_R {k : IntKind} {e : Nat} {w : World} {base : Nat} {ok : Nat → Prop} {v : Value} {l : List Int} (h : Kd.R (Kd.int k) e w base ok v l) :
    ∃ L : Loc, (∀ (ρ : Rho) id, ρ id = L → den ρ (.all id) = v) ∧ (∀ ρ, OK ρ w L (.row e [.int k] l)) ∧ (L.nil = false → base ≤ L.blk) := by
  obtain ⟨_, inner, ⟨h1, h2⟩, hr1, hr2⟩ := h
  have hi : inner = flat [.int k] l := by
    rw [flat_int]
    apply List.ext_getElem?
    intro j
    rw [List.getElem?_map]
    cases hj : l[j]? with
    | none =>
      have : l.length ≤ j := List.getElem?_eq_none_iff.1 hj
      have hlen : inner.length = l.length * 1 := hr1
      rw [List.getElem?_eq_none (by omega)]; rfl
    | some p =>
      have hm : (inner.drop (j * 1)).take 1 = [Value.int k p] := hr2 j p hj
      have hlt : j < l.length := (List.getElem?_eq_some_iff.1 hj).1
      have hlen : inner.length = l.length * 1 := hr1
      rw [Nat.mul_one] at hm
      have h0 : ((inner.drop j).take 1)[0]? = some (Value.int k p) := by rw [hm]; rfl
      rw [List.getElem?_take_of_lt (by omega), List.getElem?_drop, Nat.add_zero] at h0
      rw [h0]; rfl
  rcases h2 with ⟨rfl, hn⟩ | ⟨g, cap, cur, rfl, hg, hh, hle, hm, hs, ht⟩
  · refine ⟨⟨0, 0, 0, 0, true, none⟩, fun ρ id hid => by simp only [den, hid]; rfl, fun ρ => ⟨hn.symm, .inl ⟨rfl, List.length_eq_zero_iff.1 hn, rfl, rfl⟩⟩, fun h => by cases h⟩
  · refine ⟨⟨g, 0, l.length, cap, false, none⟩, fun ρ id hid => by simp only [den, hid]; rfl, fun ρ => ⟨rfl, .inr ⟨rfl, rfl, hle, cur, hh, hs, ?_⟩⟩, fun _ => hg⟩
    rw [← hi]; exact ht
theorem C_of_row {k : IntKind} {e : Nat} {w : World} {L : Loc} {l : List Int} {ρ : Rho} (h : OK ρ w L (.row e [.int k] l)) (hl : l.length ≤ 9223372036854775807) :
    ∃ A c, (∀ (ρ' : Rho) id, ρ' id = L → den ρ' (.all id) = .slice A l.length c) ∧ l.length ≤ c ∧ Kd.C (Kd.int k) w A l.length l := by
  obtain ⟨hL, ⟨hn, hl0, hc⟩ | ⟨hn, ho, hle, arr, hh, hs, ht⟩⟩ := h
  · have hl0 : l = ([] : List Int) := hl0
    subst hl0
    exact ⟨none, 0, fun ρ' id hid => by simp only [den, hid, hn, hc.1, hc.2]; rfl, Nat.zero_le _, rfl, by simp, fun h => by simp at h⟩
  · refine ⟨some ⟨L.blk, L.off, none⟩, L.cap, fun ρ' id hid => by simp only [den, hid, hn]; rw [hL]; rfl, hle, rfl, hl, fun _ => ⟨_, rfl, fun j p hp => ⟨[Value.int k p], rfl, rfl, fun i u hu => ?_⟩⟩⟩
    have hi : i = 0 := by
      cases i with
      | zero => rfl
      | succ i => simp at hu
    subst hi
    simp at hu
    subst hu
    have ha : (⟨L.blk, L.off, none⟩ : Addr).add (j * 1 + 0) = ⟨L.blk, j, none⟩ := by
      unfold Addr.add
      split
      · rename_i h0; rw [ho]; congr 1; omega
      · rw [ho]; simp
    show w.cell? ((⟨L.blk, L.off, none⟩ : Addr).add (j * 1 + 0)) = _
    rw [ha, blk_cell hh j]
    have hj : j < l.length := (List.getElem?_eq_some_iff.1 hp).1
    have ht' : arr.toList.take (l.length * 1) = l.map (Value.int k) := by rw [← flat_int]; exact ht
    have h1 : (arr.toList.take (l.length * 1))[j]? = some (Value.int k p) := by
      rw [ht', List.getElem?_map, hp]; rfl
    rw [List.getElem?_take_of_lt (by omega)] at h1
    simpa using h1
abbrev numS (b : Bool) (i : Nat) : SV := .agg [.v (.bool b), .all i]
def okLen (l : List Int) : Bool := Nat.ble l.length 9223372036854775807
def rowOf (i : Nat) (k : List Int → Rd Out) : Rd Out := .obj i fun o => match o with
  | .row _ [.int .i64] l => .br (okLen l) (k l) .fail
  | _ => .fail
theorem rowOf_run {i : Nat} {k : List Int → Rd Out} {h : Hp} {out : Out} {ids : List Nat} (hr : (rowOf i k).run h = some (out, ids)) : ∃ (e : Nat) (l : List Int) (ids' : List Nat), look h i = some (.row e [.int .i64] l) ∧ l.length ≤ 9223372036854775807 ∧ (k l).run h = some (out, ids') := by
  unfold rowOf at hr
  simp only [Rd.run] at hr
  cases ho : look h i with
  | none => rw [ho] at hr; cases hr
  | some o =>
    rw [ho] at hr
    simp only [Option.map_eq_some_iff] at hr
    obtain ⟨⟨a, l'⟩, h1, h2⟩ := hr
    cases h2
    cases o with
    | row e s l =>
      match s, l, h1 with
      | [.int .i64], l, h1 =>
        simp only [Rd.run] at h1
        cases hb : okLen l with
        | false => rw [hb] at h1; cases h1
        | true =>
          rw [hb] at h1
          exact ⟨e, l, l', rfl, Nat.le_of_ble_eq_true hb, h1⟩
    | _ => cases h1
theorem gives_num {P : Program} {B : Nat → Prop} {f : FuncId} {fn : Func} (hf : P.funcs[f]? = some fn) (hname : (fn.name == "runtime.NumGoroutine") = false) (hbody : fn.body.isSome = true) {args : Array Value} {ρ : Rho} {h : Hp} {w : World} {lo : Nat} {b : Bool} {l : List Int} {e : Nat}
    (hr : HR B ρ h w) (hfr : HFree lo (lo + wide) h) (up : ∀ b, w.heap.size ≤ b → B b)
    (hc : Calls P f args w fun x w' => ∃ v : Value, x = .returned (.agg #[.bool b, v]) ∧ Kd.R (Kd.int .i64) e w' w.heap.size (fun _ => True) v l ∧ Below w.heap.size w w') :
    CallGives P f args w fun v w' => ∃ ρ', Made B ρ h w lo (lo + wide) ⟨numS b lo, [(lo, .row e [.int .i64] l)]⟩ ρ' v w' := by
  obtain ⟨c0, hbody⟩ := Option.isSome_iff_exists.1 hbody
  refine .inl ⟨run_callFunc_enter' hf hname hbody _ _, hc.mono ?_⟩
  rintro x w' ⟨v, rfl, hR, hb⟩
  obtain ⟨L, h1, h2, h3⟩ := row_of_R hR
  have m := made_new (s := numS b lo) (o := .row e [.int .i64] l) (L := L) hr hfr (show lo < lo + wide by unfold wide; omega) up (Keeps.of_below hb up) (fun k hk => hb.block k hk) rfl h3 (h2 _)
  have hv : den (setRho ρ lo L) (numS b lo) = .agg #[.bool b, v] := by
    simp only [numS, den, denL]
    have := h1 (setRho ρ lo L) lo (setRho_same _ _ _)
    simp only [den] at this
    rw [this]
  rw [hv] at m
  exact ⟨_, rfl, _, m⟩
theorem gives_plain {P : Program} {B : Nat → Prop} {f : FuncId} {fn : Func} (hf : P.funcs[f]? = some fn) (hname : (fn.name == "runtime.NumGoroutine") = false) (hbody : fn.body.isSome = true) {args : Array Value} {ρ : Rho} {h : Hp} {w : World} {lo : Nat} {v : Value}
    (hr : HR B ρ h w) (up : ∀ b, w.heap.size ≤ b → B b) (hc : Calls P f args w fun x w' => x = .returned v ∧ Below w.heap.size w w') :
    CallGives P f args w fun v' w' => ∃ ρ', Made B ρ h w lo (lo + wide) ⟨.v v, []⟩ ρ' v' w' := by
  obtain ⟨c0, hbody⟩ := Option.isSome_iff_exists.1 hbody
  refine .inl ⟨run_callFunc_enter' hf hname hbody _ _, hc.mono ?_⟩
  rintro x w' ⟨rfl, hb⟩
  exact ⟨_, rfl, ρ, rfl, fun _ _ => rfl, hr.keep hb.size fun i o ho hd hn => hb.block _ ((hr.ok i o ho).lt hd hn), Keeps.of_below hb up⟩
theorem gives_same {P : Program} {B : Nat → Prop} {f : FuncId} {fn : Func} (hf : P.funcs[f]? = some fn) (hname : (fn.name == "runtime.NumGoroutine") = false) (hbody : fn.body.isSome = true) {args : Array Value} {ρ : Rho} {h : Hp} {w : World} {lo : Nat} {s : SV}
    (hr : HR B ρ h w) (up : ∀ b, w.heap.size ≤ b → B b) (hc : Calls P f args w fun x w' => x = .returned (den ρ s) ∧ Below w.heap.size w w') :
    CallGives P f args w fun v' w' => ∃ ρ', Made B ρ h w lo (lo + wide) ⟨s, []⟩ ρ' v' w' := by
  obtain ⟨c0, hbody⟩ := Option.isSome_iff_exists.1 hbody
  refine .inl ⟨run_callFunc_enter' hf hname hbody _ _, hc.mono ?_⟩
  rintro x w' ⟨rfl, hb⟩
  exact ⟨_, rfl, ρ, rfl, fun _ _ => rfl, hr.keep hb.size fun i o ho hd hn => hb.block _ ((hr.ok i o ho).lt hd hn), Keeps.of_below hb up⟩
theorem calls_of_ev {P : Program} {C : FuncId → Option Con} {cn : Nat → St → Option St} {F : Nat} {f : FuncId} {fn : Func} {c0 : Code} (hm : P.follows .mixedOrders = true) (hf : P.funcs[f]? = some fn) (hname : (fn.name == "runtime.NumGoroutine") = false) (hbody : fn.body = some c0)
    (hC : ∀ B' g φ, C g = some φ → ConOk P B' g φ) (hcn : ∀ B' (w : World), CnOk cn B' (Base.of w) fn.ntmps) {args : List SV} {r : SV} (hev : evFn P C cn F fn args [] 0 K1 = some r) (ha : ltL 0 args = true) (hfa : freeL 0 wide args = true) (hr : r.lt 0 = true) (ρ : Rho) (w : World) :
    Calls P f (denL ρ args).toArray w fun e w' => e = .returned (den ρ r) ∧ Below w.heap.size w w' := by
  have hc : ∀ B, ConOk P B f (fun args' _ => Rd.br (ltL 0 args') (Rd.opt (evFn P C cn F fn args' [] 0 K1) fun r' => .ret ⟨r', []⟩) .fail) := con_pure hm hf hname hbody hC hcn fun args' lo h out ids hrun => by
    cases hl : ltL 0 args' with
    | false => rw [hl] at hrun; cases hrun
    | true =>
      rw [hl] at hrun
      cases he : evFn P C cn F fn args' [] 0 K1 with
      | none => rw [he] at hrun; cases hrun
      | some r' => rw [he] at hrun; cases hrun; exact ⟨rfl, rfl, rfl⟩
  refine calls_of_con hf hname hbody hc (args := args) (out := ⟨r, []⟩) (ids := []) ?_ hfa hr ρ w
  show (Rd.br (ltL 0 args) (Rd.opt (evFn P C cn F fn args [] 0 K1) fun r' => Rd.ret (Out.mk r' [])) Rd.fail).run [] = some (Out.mk r [], [])
  rw [ha, hev]; rfl
end Go.Proofs.Ytogmjkmnknaieaa.Ax
namespace Go.Proofs.Ytogmjkmnknaieaa.Ax
open Go Go.RowKit Go.Proofs.YtogmjkmnknaieaaW.PrintWords
set_option linter.unusedVariables false
set_option linter.unusedSimpArgs false
mutual
theorem ren_lt0 (m : Nat → Nat) : ∀ s : SV, s.lt 0 = true → ren m s = s
  | .v _, _ => rfl
  | .ptr id _, h => absurd (blt_lt h) (Nat.not_lt_zero _)
  | .elt id _ _ _, h => absurd (blt_lt h) (Nat.not_lt_zero _)
  | .slc id _ _ _ _, h => absurd (blt_lt h) (Nat.not_lt_zero _)
  | .all id, h => absurd (blt_lt h) (Nat.not_lt_zero _)
  | .map id, h => absurd (blt_lt h) (Nat.not_lt_zero _)
  | .fn _ fi ca, h => by
    simp only [SV.lt, Bool.and_eq_true] at h
    simp only [ren]; rw [renL_lt0 m fi h.1, renL_lt0 m ca h.2]
  | .agg l, h => by simp only [ren]; rw [renL_lt0 m l h]
  | .tup l, h => by simp only [ren]; rw [renL_lt0 m l h]
theorem renL_lt0 (m : Nat → Nat) : ∀ l : List SV, ltL 0 l = true → renL m l = l
  | [], _ => rfl
  | s :: l, h => by
    simp only [ltL, Bool.and_eq_true] at h
    simp only [renL]; rw [ren_lt0 m s h.1, renL_lt0 m l h.2]
end
section
variable {P : Program} {C : FuncId → Option Con} {cn : Nat → St → Option St} {F : Nat} {B : Nat → Prop} {f : FuncId} {fn : Func} {ρ : Rho} {h : Hp} {w : World} {lo : Nat}
end
theorem arg_of_C {α : Type} {d : Kd α} {s : List Sc} {f : α → TT s} (hd : ∀ w x c, d.K w x c → c = enc s (f x)) (hsz : d.sz = s.length) (hs0 : 0 < s.length) {w : World} {A : Option Addr} {c : Nat} {l : List α} (h : Kd.C d w A l.length l) (hc : l.length ≤ c) (hl : l ≠ []) :
    ∃ L : Loc, L.nil = false ∧ L.len = l.length ∧ L.cap = c ∧ A = some ⟨L.blk, L.off, none⟩ ∧ (∀ ρ, OK ρ w L (.arg s (l.map f))) := by
  have hpos : 0 < l.length := by cases l with | nil => exact absurd rfl hl | cons => simp
  obtain ⟨h1, h2, h3⟩ := h
  obtain ⟨ad, rfl, hcell⟩ := h3 hpos
  have cells : ∀ j p, l[j]? = some p → ∀ i u, (enc s (f p))[i]? = some u → w.cell? (ad.add (j * s.length + i)) = some u := by
    intro j p hp i u hu
    obtain ⟨cs, k1, k2, k3⟩ := hcell j p hp
    have := k3 i u (by rw [hd w p cs k2]; exact hu)
    rwa [hsz] at this
  obtain ⟨p0, hp0⟩ : ∃ p0, l[0]? = some p0 := ⟨_, List.getElem?_eq_getElem hpos⟩
  obtain ⟨u0, hu0⟩ : ∃ u0, (enc s (f p0))[0]? = some u0 := ⟨_, List.getElem?_eq_getElem (by rw [enc_length]; exact hs0)⟩
  have c0 := cells 0 p0 hp0 0 u0 hu0
  have hz : ad.add (0 * s.length + 0) = ad := by unfold Addr.add; rw [if_pos (by omega)]
  rw [hz] at c0
  have hsp : ad.spot = none ∧ ad.block < w.heap.size := by
    unfold World.cell? at c0
    cases hb : w.heap[ad.block]? with
    | none => rw [hb] at c0; cases c0
    | some o =>
      refine ⟨?_, (Array.getElem?_eq_some_iff.1 hb).1⟩
      rw [hb] at c0
      cases o with
      | cells cc ty fr =>
        simp only at c0
        cases hs : ad.spot with
        | none => rfl
        | some z => rw [hs] at c0; simp at c0
      | _ => cases c0
  have hadd : ∀ n, ad.add n = ⟨ad.block, ad.off + n, none⟩ := by
    intro n
    unfold Addr.add
    split
    · rename_i e; subst e; cases ad; simp at hsp; simp [hsp.1]
    · rfl
  refine ⟨⟨ad.block, ad.off, l.length, c, false, none⟩, rfl, rfl, rfl, ?_, fun ρ => ⟨by simp, .inr ⟨rfl, hsp.2, by simp; exact hc, fun j v hv => ?_⟩⟩⟩
  · cases ad; simp at hsp; simp [hsp.1]
  · -- the flat cells
    have hfl : ∀ (l : List α) (j : Nat) (v : Value), (flat s (l.map f))[j]? = some v → ∃ q p, l[q]? = some p ∧ (enc s (f p))[j - q * s.length]? = some v ∧ q * s.length ≤ j := by
      intro l
      induction l with
      | nil => intro j v hv; simp [flat] at hv
      | cons x l ih =>
        intro j v hv
        simp only [flat, List.map_cons, List.flatten_cons] at hv ih
        by_cases hj : j < s.length
        · rw [List.getElem?_append_left (by rw [enc_length]; exact hj)] at hv
          exact ⟨0, x, rfl, by simpa using hv, by omega⟩
        · rw [List.getElem?_append_right (by rw [enc_length]; omega), enc_length] at hv
          obtain ⟨q, p, k1, k2, k3⟩ := ih (j - s.length) v hv
          refine ⟨q + 1, p, by simpa using k1, ?_, by rw [Nat.succ_mul]; omega⟩
          rw [Nat.succ_mul, show j - (q * s.length + s.length) = j - s.length - q * s.length by omega]
          exact k2
    obtain ⟨q, p, k1, k2, k3⟩ := hfl l j v hv
    have := cells q p k1 _ v k2
    rw [show q * s.length + (j - q * s.length) = j by omega, hadd] at this
    exact this
end Go.Proofs.Ytogmjkmnknaieaa.Ax
namespace Go.Proofs.Ytogmjkmnknaieaa.Ax
open Go Go.RowKit
set_option linter.unusedVariables false
set_option linter.unusedSimpArgs false
theorem Rd.runK_nat {α : Type} (h : Hp) (r : Rd α) : ∀ {β : Type} (l : List Nat) (K : α → List Nat → Option β) (b : β), r.runK h l K = some b → ∃ a ids, ∀ (γ : Type) (K' : α → List Nat → Option γ), r.runK h l K' = K' a ids := by
  induction r with
  | ret a => exact fun l K b hb => ⟨a, l, fun γ K' => rfl⟩
  | fail => exact fun l K b hb => by cases hb
  | obj id k ih =>
    intro β l K b hb
    simp only [Rd.runK] at hb ⊢
    cases ho : look h id with
    | none => rw [ho] at hb; cases hb
    | some o => rw [ho] at hb; exact ih o _ _ _ hb
  | br c t e iht ihe =>
    intro β l K b hb
    cases c with
    | true => exact iht _ _ _ hb
    | false => exact ihe _ _ _ hb
  | opt x k ih =>
    intro β l K b hb
    cases x with
    | none => cases hb
    | some y => exact ih y _ _ _ hb
  | cps f nat k ih =>
    intro β l K b hb
    obtain ⟨y, hy⟩ := nat _ _ _ hb
    simp only [Rd.runK, hy] at hb ⊢
    exact ih y _ _ _ hb
section
variable {E : Oper → (Operand → Option SV) → Nat → Rd Out} {n : Nat}
theorem evOps_nat {ops : Array Oper} {n0 : Nat} : ∀ (l : List Oper) (i : Nat) (σ : St) (rs : List Rec) {β : Type} (K : St → List Rec → Option β) (b : β), evOps E n ops n0 i l σ rs K = some b → ∃ σ' rs', ∀ (γ : Type) (K' : St → List Rec → Option γ), evOps E n ops n0 i l σ rs K' = K' σ' rs'
  | [], i, σ, rs, β, K, b, h => ⟨σ, rs, fun γ K' => rfl⟩
  | o :: l, i, σ, rs, β, K, b, h => by
    simp only [evOps, forceSt_eq] at h ⊢
    cases hk : dstOk n o.dst with
    | false => rw [hk] at h; cases h
    | true =>
      rw [hk] at h
      simp only [cond_true] at h ⊢
      have exec : ∀ (τ : St), ((E o (evo τ) (n0 + wide * i)).runK τ.hp [] fun out ids => evOps E n ops n0 (i + 1) l (τ.app o.dst out) (⟨i, out, ids.reverse⟩ :: rs) K) = some b →
          ∃ σ' rs', ∀ (γ : Type) (K' : St → List Rec → Option γ), ((E o (evo τ) (n0 + wide * i)).runK τ.hp [] fun out ids => evOps E n ops n0 (i + 1) l (τ.app o.dst out) (⟨i, out, ids.reverse⟩ :: rs) K') = K' σ' rs' := by
        intro τ hr
        obtain ⟨out, ids, h1⟩ := Rd.runK_nat _ _ _ _ _ hr
        rw [h1] at hr
        obtain ⟨σ', rs', h2⟩ := evOps_nat l (i + 1) _ _ K b hr
        exact ⟨σ', rs', fun γ K' => by rw [h1]; exact h2 γ K'⟩
      cases hg : o.guard with
      | none => rw [hg] at h; exact exec σ h
      | some gw =>
        obtain ⟨g, want⟩ := gw
        rw [hg] at h
        simp only at h ⊢
        cases hy : ysv ops σ g with
        | none =>
          rw [hy] at h
          simp only at h ⊢
          cases hu : yun ops σ g with
          | false => rw [hu] at h; cases h
          | true => rw [hu] at h; exact evOps_nat l (i + 1) _ _ K b h
        | some c =>
          rw [hy] at h
          simp only at h ⊢
          cases want <;> cases c
          · exact exec _ h
          · exact evOps_nat l (i + 1) _ _ K b h
          · exact evOps_nat l (i + 1) _ _ K b h
          · exact exec _ h
theorem evReg_nat {ops : Array Oper} {draw : Bool} {σ : St} {β : Type} {K : St → Option β} {b : β} (h : evReg E n ops draw σ K = some b) : ∃ σ', ∀ (γ : Type) (K' : St → Option γ), evReg E n ops draw σ K' = K' σ' := by
  obtain ⟨sl, hp, nx⟩ := σ
  unfold evReg at h ⊢
  simp only at h ⊢
  obtain ⟨σ', rs', h1⟩ := evOps_nat _ _ _ _ _ _ h
  rw [h1] at h
  cases hb : regOk ops nx draw rs'.reverse with
  | false => rw [hb] at h; cases h
  | true =>
    refine ⟨⟨σ'.sl, σ'.hp, nx + wide * ops.size⟩, fun γ K' => ?_⟩
    rw [h1, hb, forceN_eq]
    rfl
variable {cn : Nat → St → Option St} {F : Nat}
theorem ev_nat : ∀ (c : Code) (σ : St) {β : Type} (K : Ex → St → Option β) (b : β), ev E n cn F c σ K = some b → ∃ e σ', ∀ (γ : Type) (K' : Ex → St → Option γ), ev E n cn F c σ K' = K' e σ'
  | .skip, σ, β, K, b, h => ⟨.normal, σ, fun γ K' => rfl⟩
  | .region id ops draw, σ, β, K, b, h => by
    obtain ⟨σ', h1⟩ := evReg_nat (K := K .normal) h
    exact ⟨.normal, σ', fun γ K' => h1 γ (K' .normal)⟩
  | .seq x y, σ, β, K, b, h => by
    obtain ⟨e, σ1, h1⟩ := ev_nat x σ _ b h
    have h' : (match (generalizing := false) e with | .normal => ev E n cn F y σ1 K | .exit id => K (.exit id) σ1 | .ret => K .ret σ1) = some b := (h1 _ _).symm.trans h
    cases e with
    | normal =>
      obtain ⟨e2, σ2, h2⟩ := ev_nat y σ1 K b h'
      exact ⟨e2, σ2, fun γ K' => (h1 γ _).trans (h2 γ K')⟩
    | exit id => exact ⟨.exit id, σ1, fun γ K' => h1 γ _⟩
    | ret => exact ⟨.ret, σ1, fun γ K' => h1 γ _⟩
  | .cond c x y, σ, β, K, b, h => by
    simp only [ev, forceSt_eq] at h ⊢
    split at h
    · rename_i t ht
      cases t with
      | true =>
        obtain ⟨e, σ', h1⟩ := ev_nat x _ K b h
        exact ⟨e, σ', fun γ K' => h1 γ K'⟩
      | false =>
        obtain ⟨e, σ', h1⟩ := ev_nat y _ K b h
        exact ⟨e, σ', fun γ K' => h1 γ K'⟩
    · cases h
  | .block id c, σ, β, K, b, h => by
    obtain ⟨e, σ1, h1⟩ := ev_nat c σ _ b h
    have h' : (match (generalizing := false) e with | .normal => K .normal σ1 | .exit j => cond (Nat.beq j id) (K .normal σ1) (K (.exit j) σ1) | .ret => K .ret σ1) = some b := (h1 _ _).symm.trans h
    cases e with
    | normal => exact ⟨.normal, σ1, fun γ K' => h1 γ _⟩
    | exit j =>
      cases hj : Nat.beq j id with
      | true => exact ⟨.normal, σ1, fun γ K' => by refine (h1 γ _).trans ?_; simp only [hj, cond_true]⟩
      | false => exact ⟨.exit j, σ1, fun γ K' => by refine (h1 γ _).trans ?_; simp only [hj, cond_false]⟩
    | ret => exact ⟨.ret, σ1, fun γ K' => h1 γ _⟩
  | .loop c, σ, β, K, b, h => by
    simp only [ev] at h ⊢
    cases hc : cn (key c) σ with
    | none => rw [hc] at h; cases h
    | some σ0 =>
      rw [hc] at h
      simp only at h ⊢
      clear hc
      have go : ∀ (k : Nat) (σ1 : St), iter k (fun rec σ1 => ev E n cn F c σ1 fun e σ' => match e with
          | .normal => match cn (key c) σ' with
            | none => none
            | some σ2 => rec σ2
          | .exit id => K (.exit id) σ'
          | .ret => K .ret σ') σ1 = some b → ∃ e σ', ∀ (γ : Type) (K' : Ex → St → Option γ), iter k (fun rec σ1 => ev E n cn F c σ1 fun e σ' => match e with
          | .normal => match cn (key c) σ' with
            | none => none
            | some σ2 => rec σ2
          | .exit id => K' (.exit id) σ'
          | .ret => K' .ret σ') σ1 = K' e σ' := by
        intro k
        induction k with
        | zero => intro σ1 h; cases h
        | succ k ih =>
          intro σ1 h
          simp only [iter] at h ⊢
          obtain ⟨e, σ', h1⟩ := ev_nat c σ1 _ b h
          rw [h1] at h
          cases e with
          | normal =>
            simp only at h
            cases hc : cn (key c) σ' with
            | none => rw [hc] at h; cases h
            | some σ2 =>
              rw [hc] at h
              obtain ⟨e2, σ3, h2⟩ := ih σ2 h
              refine ⟨e2, σ3, fun γ K' => ?_⟩
              rw [h1]
              simp only [hc]
              exact h2 γ K'
          | exit id => exact ⟨.exit id, σ', fun γ K' => by rw [h1]⟩
          | ret => exact ⟨.ret, σ', fun γ K' => by rw [h1]⟩
      exact go F σ0 h
  | .label _, σ, β, K, b, h => ⟨.normal, σ, fun γ K' => rfl⟩
  | .exit id, σ, β, K, b, h => ⟨.exit id, σ, fun γ K' => rfl⟩
  | .ret, σ, β, K, b, h => ⟨.ret, σ, fun γ K' => rfl⟩
  | .scope _, σ, β, K, b, h => by cases h
end
section
variable {P : Program} {C : FuncId → Option Con} {cn : Nat → St → Option St} {F : Nat}
theorem evFn_nat {fn : Func} {args : List SV} {hp : Hp} {nx : Nat} {β : Type} {K : SV → Hp → Option β} {b : β} (h : evFn P C cn F fn args hp nx K = some b) : ∃ s h', ∀ (γ : Type) (K' : SV → Hp → Option γ), evFn P C cn F fn args hp nx K' = K' s h' := by
  unfold evFn at h ⊢
  cases hb : fn.body with
  | none => rw [hb] at h; cases h
  | some c =>
    rw [hb] at h
    simp only at h ⊢
    cases hn : Nat.ble args.length fn.ntmps with
    | false => rw [hn] at h; cases h
    | true =>
      rw [hn] at h
      simp only [cond_true] at h ⊢
      obtain ⟨e, σ', h1⟩ := ev_nat c _ _ b h
      rw [h1] at h
      cases e with
      | exit id => cases h
      | normal =>
        simp only at h
        cases hr : resS P σ' fn.results.toList with
        | none => rw [hr] at h; cases h
        | some l => exact ⟨resV l, σ'.hp, fun γ K' => by rw [h1]; simp only [hr]⟩
      | ret =>
        simp only at h
        cases hr : resS P σ' fn.results.toList with
        | none => rw [hr] at h; cases h
        | some l => exact ⟨resV l, σ'.hp, fun γ K' => by rw [h1]; simp only [hr]⟩
def gatherR : Nat → List Nat → List (Nat × AObj) → (List (Nat × AObj) → Rd Out) → Rd Out
  | 0, _, _, _ => .fail
  | f + 1, todo, acc, k => match todo with
    | [] => k acc
    | i :: l => match look acc i with
      | some _ => gatherR f l acc k
      | none => .obj i fun o => gatherR f (l ++ o.names) (acc ++ [(i, o)]) k
def idxOf (i : Nat) : Nat → List (Nat × AObj) → Nat
  | n, [] => n
  | n, (j, _) :: l => cond (Nat.beq j i) n (idxOf i (n + 1) l)
def nthOf : List (Nat × AObj) → Nat → Nat
  | [], j => j
  | (i, _) :: _, 0 => i
  | _ :: l, j + 1 => nthOf l j
def viewO (own : Bool) (m : Nat → Nat) : AObj → AObj
  | .cells ty c => cond own (.cells ty (renL m c)) (.ro ty (renL m c))
  | .row ty s l => cond own (.row ty s l) (.arg s l)
  | .ro ty c => .ro ty (renL m c)
  | .arg s l => .arg s l
  | .mapo ks vs l => .mapo ks vs l
  | .raw o => .raw o
  | .dead => .dead
def hcOf (own : Bool) (m : Nat → Nat) : Nat → List (Nat × AObj) → Hp
  | _, [] => []
  | j, (_, o) :: l => cond o.isDead (hcOf own m (j + 1) l) ((j, viewO own m o) :: hcOf own m (j + 1) l)
def chkRen (acc : List (Nat × AObj)) (i : Nat) : Bool := Nat.blt (idxOf i 0 acc) acc.length && Nat.beq (nthOf acc (idxOf i 0 acc)) i
def chkIdx (acc : List (Nat × AObj)) : Nat → List (Nat × AObj) → Bool
  | _, [] => true
  | j, (i, o) :: l => Nat.beq (idxOf i 0 acc) j && o.ids (chkRen acc) && chkIdx acc (j + 1) l
def ownChk (hp' : Hp) : Hp → Bool
  | [] => true
  | (i, o) :: l => (!o.own || (match look hp' i with
    | some o' => o'.own || o'.isDead
    | none => false)) && ownChk hp' l
noncomputable def conAuto (P : Program) (C : FuncId → Option Con) (cn : Nat → St → Option St) (F : Nat) (own : Bool) (fn : Func) : Con := fun args lo =>
  gatherR 60 (namesL args) [] fun acc => cond (idsL (chkRen acc) args && chkIdx acc 0 acc)
    (.cps (δ := Out) (fun γ k => forceC (renL (fun i => idxOf i 0 acc) args) fun args' => forceHp (hcOf own (fun i => idxOf i 0 acc) 0 acc) fun hc => forceN acc.length fun p =>
      evFn P C cn F fn args' hc p fun s h => match KO p s h with
        | none => none
        | some (r, hp') => cond (ownChk hp' hc) (k ⟨ren (mr (nthOf acc) p lo) r, updGo (mr (nthOf acc) p lo) hp' hp'⟩) none)
      (fun γ k b h => by
        simp only [forceC_eq, forceHp_eq, forceN_eq] at h ⊢
        obtain ⟨s, h', h1⟩ := evFn_nat h
        rw [h1] at h
        cases hk : KO acc.length s h' with
        | none => rw [hk] at h; cases h
        | some x =>
          obtain ⟨r, hp'⟩ := x
          rw [hk] at h
          simp only at h
          cases ho : ownChk hp' (hcOf own (fun i => idxOf i 0 acc) 0 acc) with
          | false => rw [ho] at h; cases h
          | true => exact ⟨⟨ren (mr (nthOf acc) acc.length lo) r, updGo (mr (nthOf acc) acc.length lo) hp' hp'⟩, fun γ' k' => by rw [h1]; simp only [hk, ho, cond_true]⟩)
      fun out => .ret out) .fail
mutual
theorem ren_back {m fm : Nat → Nat} {q : Nat → Bool} (hq : ∀ i, q i = true → m (fm i) = i) : ∀ s : SV, s.ids q = true → ren m (ren fm s) = s
  | .v _, _ => rfl
  | .ptr id _, h => by simp only [ren]; rw [hq id h]
  | .elt id _ _ _, h => by simp only [ren]; rw [hq id h]
  | .slc id _ _ _ _, h => by simp only [ren]; rw [hq id h]
  | .all id, h => by simp only [ren]; rw [hq id h]
  | .map id, h => by simp only [ren]; rw [hq id h]
  | .fn _ fi ca, h => by
    simp only [SV.ids, Bool.and_eq_true] at h
    simp only [ren]; rw [renL_back hq fi h.1, renL_back hq ca h.2]
  | .agg l, h => by simp only [ren]; rw [renL_back hq l h]
  | .tup l, h => by simp only [ren]; rw [renL_back hq l h]
theorem renL_back {m fm : Nat → Nat} {q : Nat → Bool} (hq : ∀ i, q i = true → m (fm i) = i) : ∀ l : List SV, idsL q l = true → renL m (renL fm l) = l
  | [], _ => rfl
  | s :: l, h => by
    simp only [idsL, Bool.and_eq_true] at h
    simp only [renL]; rw [ren_back hq s h.1, renL_back hq l h.2]
end
theorem gatherR_run {h : Hp} {k : List (Nat × AObj) → Rd Out} : ∀ (f : Nat) (todo : List Nat) (acc : List (Nat × AObj)) (out : Out) (ids : List Nat), (gatherR f todo acc k).run h = some (out, ids) → (∀ q ∈ acc, look h q.1 = some q.2) →
    ∃ acc' ids', (∀ q ∈ acc', look h q.1 = some q.2) ∧ (k acc').run h = some (out, ids')
  | 0, todo, acc, out, ids, hr, _ => by cases hr
  | f + 1, todo, acc, out, ids, hr, ha => by
    simp only [gatherR] at hr
    cases todo with
    | nil => exact ⟨acc, ids, ha, hr⟩
    | cons i l =>
      simp only at hr
      cases hl : look acc i with
      | some _ => rw [hl] at hr; exact gatherR_run f l acc out ids hr ha
      | none =>
        rw [hl] at hr
        obtain ⟨o, ids', ho, hr⟩ := obj_run hr
        exact gatherR_run f _ _ out ids' hr (fun q hq => by
          rcases List.mem_append.1 hq with hq | hq
          · exact ha q hq
          · simp only [List.mem_singleton] at hq; subst hq; exact ho)
theorem hcOf_look {own : Bool} {m : Nat → Nat} {i : Nat} {oc : AObj} : ∀ {l : List (Nat × AObj)} {j : Nat}, look (hcOf own m j l) i = some oc → ∃ q, j ≤ i ∧ l[i - j]? = some q ∧ oc = viewO own m q.2 ∧ q.2.isDead = false
  | [], j, h => by cases h
  | (a, o) :: l, j, h => by
    simp only [hcOf] at h
    cases hd : o.isDead with
    | true =>
      rw [hd] at h
      obtain ⟨q, h1, h2, h3⟩ := hcOf_look h
      exact ⟨q, by omega, by rw [show i - j = (i - (j + 1)) + 1 by omega, List.getElem?_cons_succ]; exact h2, h3⟩
    | false =>
      rw [hd] at h
      simp only [cond_false, look] at h
      by_cases e : j = i
      · subst e
        rw [Nat.beq_refl] at h
        cases h
        exact ⟨(a, o), Nat.le_refl _, by simp, rfl, hd⟩
      · rw [beq_no e] at h
        obtain ⟨q, h1, h2, h3⟩ := hcOf_look h
        exact ⟨q, by omega, by rw [show i - j = (i - (j + 1)) + 1 by omega, List.getElem?_cons_succ]; exact h2, h3⟩
theorem nthOf_get : ∀ {l : List (Nat × AObj)} {i : Nat} {q : Nat × AObj}, l[i]? = some q → nthOf l i = q.1
  | [], i, q, h => by simp at h
  | (a, o) :: l, 0, q, h => by simp at h; subst h; rfl
  | (a, o) :: l, i + 1, q, h => by rw [List.getElem?_cons_succ] at h; exact nthOf_get (l := l) h
theorem chkIdx_get {acc : List (Nat × AObj)} : ∀ {l : List (Nat × AObj)} {j : Nat}, chkIdx acc j l = true → ∀ {i : Nat} {q : Nat × AObj}, l[i]? = some q → idxOf q.1 0 acc = j + i ∧ q.2.ids (chkRen acc) = true
  | [], j, _, i, q, h => by simp at h
  | (a, o) :: l, j, hc, i, q, h => by
    simp only [chkIdx, Bool.and_eq_true] at hc
    cases i with
    | zero => simp at h; subst h; exact ⟨Nat.eq_of_beq_eq_true hc.1.1, hc.1.2⟩
    | succ i =>
      rw [List.getElem?_cons_succ] at h
      obtain ⟨h1, h2⟩ := chkIdx_get hc.2 h
      exact ⟨by omega, h2⟩
theorem ownChk_look {hp' : Hp} {i : Nat} {oc : AObj} (hw : oc.own = true) : ∀ {l : Hp}, ownChk hp' l = true → look l i = some oc → ∃ o', look hp' i = some o' ∧ (o'.own = true ∨ o' = .dead)
  | [], _, h => by cases h
  | (j, o) :: l, hc, h => by
    simp only [ownChk, Bool.and_eq_true] at hc
    simp only [look] at h
    by_cases e : j = i
    · subst e
      rw [Nat.beq_refl] at h
      cases h
      have h1 := hc.1
      rw [hw] at h1
      simp only [Bool.not_true, Bool.false_or] at h1
      split at h1
      · rename_i o' ho'
        rw [Bool.or_eq_true] at h1
        exact ⟨o', ho', h1.imp id AObj.of_isDead⟩
      · cases h1
    · rw [beq_no e] at h
      exact ownChk_look hw hc.2 h
theorem conAuto_ok {f : FuncId} {fn : Func} (hm : P.follows .mixedOrders = true) (hf : P.funcs[f]? = some fn) (hname : (fn.name == "runtime.NumGoroutine") = false) (hbody : fn.body.isSome = true)
    (hC : ∀ B' g φ, C g = some φ → ConOk P B' g φ) (hcn : ∀ B' (w0 : Base), CnOk cn B' w0 fn.ntmps) (own : Bool) (B : Nat → Prop) : ConOk P B f (conAuto P C cn F own fn) := by
  obtain ⟨c0, hbody⟩ := Option.isSome_iff_exists.1 hbody
  intro args ρ h w lo out ids hr hrh hfree hfa up
  unfold conAuto at hr
  obtain ⟨acc, ids', hacc, hr⟩ := gatherR_run 60 _ _ out ids hr (fun q hq => by cases hq)
  cases hchk : (idsL (chkRen acc) args && chkIdx acc 0 acc) with
  | false => rw [hchk] at hr; cases hr
  | true =>
  rw [hchk] at hr
  simp only [cond_true] at hr
  rw [Bool.and_eq_true] at hchk
  simp only [Rd.run, forceC_eq, forceHp_eq, forceN_eq] at hr
  split at hr
  · rename_i y hy
    cases hr
    obtain ⟨s, h1, hn⟩ := evFn_nat hy
    rw [hn] at hy
    cases hk : KO acc.length s h1 with
    | none => rw [hk] at hy; cases hy
    | some x =>
      obtain ⟨r, hp'⟩ := x
      rw [hk] at hy
      simp only at hy
      cases ho : ownChk hp' (hcOf own (fun i => idxOf i 0 acc) 0 acc) with
      | false => rw [ho] at hy; cases hy
      | true =>
        rw [ho] at hy
        cases hy
        have hq : ∀ i, chkRen acc i = true → nthOf acc (idxOf i 0 acc) = i := fun i hi => by
          unfold chkRen at hi
          rw [Bool.and_eq_true] at hi
          exact Nat.eq_of_beq_eq_true hi.2
        have hl : ∀ i, chkRen acc i = true → idxOf i 0 acc < acc.length := fun i hi => by
          unfold chkRen at hi
          rw [Bool.and_eq_true] at hi
          exact blt_lt hi.1
        have hargs := renL_back hq args hchk.1
        have get : ∀ i oc, look (hcOf own (fun i => idxOf i 0 acc) 0 acc) i = some oc → ∃ q, acc[i]? = some q ∧ oc = viewO own (fun i => idxOf i 0 acc) q.2 ∧ q.2.isDead = false ∧ nthOf acc i = q.1 ∧ idxOf q.1 0 acc = i ∧ q.2.ids (chkRen acc) = true := by
          intro i oc hi
          obtain ⟨q, _, h2, h3, h4⟩ := hcOf_look hi
          have h2 : acc[i]? = some q := h2
          obtain ⟨h5, h6⟩ := chkIdx_get hchk.2 h2
          exact ⟨q, h2, h3, h4, nthOf_get h2, by omega, h6⟩
        have := con_own (B := B) hm hf hname hbody hC (p := acc.length) (fun B' w0 _ => hcn B' w0) (renL (fun i => idxOf i 0 acc) args) (nthOf acc) (hcOf own (fun i => idxOf i 0 acc) 0 acc) r hp' (by rw [hn]; exact hk) ρ h w lo hrh hfree up
          (renL_lt hl args hchk.1)
          (fun i oc hi => by
            obtain ⟨q, h2, rfl, h4, h5, h6, h7⟩ := get i oc hi
            refine ⟨(List.getElem?_eq_some_iff.1 h2).1, ?_⟩
            obtain ⟨a, o⟩ := q
            cases o with
            | cells ty c => cases own <;> exact renL_lt hl c h7
            | row ty s l => cases own <;> rfl
            | ro ty c => exact renL_lt hl c h7
            | arg s l => rfl
            | mapo ks vs l => rfl
            | raw o => rfl
            | dead => rfl)
          (fun i hi => by
            have h2 := List.getElem?_eq_getElem hi
            rw [nthOf_get h2]
            exact (hfree _ _ (hacc _ (List.getElem_mem hi))).1)
          (fun i oc hi => by
            obtain ⟨q, h2, rfl, h4, h5, h6, h7⟩ := get i oc hi
            refine ⟨q.2, by rw [h5]; exact hacc q (List.mem_of_getElem? h2), ?_⟩
            obtain ⟨a, o⟩ := q
            cases o with
            | cells ty c =>
              have hb := renL_back hq c h7
              cases own with
              | true =>
                have := View.own (m := nthOf acc) ty (renL (fun i => idxOf i 0 acc) c)
                rw [hb] at this
                exact this
              | false => exact .reads (.inl (by rw [hb]))
            | mapo ks vs l => exact .mapo ks vs l
            | raw o => exact .raw o
            | row ty s l =>
              cases own with
              | true => exact .row ty s l
              | false => exact .reads (.inl ⟨ty, rfl⟩)
            | ro ty c =>
              have hb := renL_back hq c h7
              exact .reads (.inr (by rw [hb]))
            | arg s l => exact .reads (.inr rfl)
            | dead => cases h4)
          (fun i j oc oc' hi hj hij _ => by
            obtain ⟨q, _, _, _, h5, h6, _⟩ := get i oc hi
            obtain ⟨q', _, _, _, h5', h6', _⟩ := get j oc' hj
            intro e
            rw [h5, h5'] at e
            exact hij (by rw [← h6, ← h6', e]))
          (fun i oc hi hw => ownChk_look hw ho hi)
        rw [hargs] at this
        exact this
  · cases hr
end
end Go.Proofs.Ytogmjkmnknaieaa.Ax
