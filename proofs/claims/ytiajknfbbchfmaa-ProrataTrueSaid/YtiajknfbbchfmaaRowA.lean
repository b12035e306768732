/- Rows of the printed contracts, and rows over names. -/
import Derived.Test.YtiajknfbbchfmaaAx14
import Derived.Test.YtiajknfbbchfmaaWWords
namespace Go.Proofs.Ytiajknfbbchfmaa.Ax
open Go Go.RowKit Go.Proofs.YtiajknfbbchfmaaW.PrintWords
set_option linter.unusedVariables false
set_option linter.unusedSimpArgs false
theorem flat_int (k : IntKind) (l : List Int) : flat [.int k] l = l.map (Value.int k) := by
  show ((l.map fun x : Int => [Value.int k x]).flatten) = _
  induction l with
  | nil => rfl
  | cons x l ih => simp [ih]
theorem row_of_R {k : IntKind} {e : Nat} {w : World} {base : Nat} {ok : Nat → Prop} {v : Value} {l : List Int} (h : Kd.R (Kd.int k) e w base ok v l) :
    ∃ L : Loc, (∀ (ρ : Rho) id, ρ id = L → den ρ (.all id) = v) ∧ (∀ ρ, OK ρ w L (.row e [.int k] l)) ∧ (L.nil = false → base ≤ L.blk) := by
  obtain ⟨_, inner, ⟨h1, h2⟩, hr1, hr2⟩ := h
  have hi : inner = flat [.int k] l := by
    rw [flat_int]
    apply List.ext_getElem?
    intro j
    rw [List.getElem?_map]
    cases hj : l[j]? with
    | none =>
      have : l.length ≤ j := List.getElem?_eq_none_iff.1 hj
      have hlen : inner.length = l.length * 1 := hr1
      rw [List.getElem?_eq_none (by omega)]; rfl
    | some p =>
      have hm : (inner.drop (j * 1)).take 1 = [Value.int k p] := hr2 j p hj
      have hlt : j < l.length := (List.getElem?_eq_some_iff.1 hj).1
      have hlen : inner.length = l.length * 1 := hr1
      rw [Nat.mul_one] at hm
      have h0 : ((inner.drop j).take 1)[0]? = some (Value.int k p) := by rw [hm]; rfl
      rw [List.getElem?_take_of_lt (by omega), List.getElem?_drop, Nat.add_zero] at h0
      rw [h0]; rfl
  rcases h2 with ⟨rfl, hn⟩ | ⟨g, cap, cur, rfl, hg, hh, hle, hm, hs, ht⟩
  · refine ⟨⟨0, 0, 0, 0, true, none⟩, fun ρ id hid => by simp only [den, hid]; rfl, fun ρ => ⟨hn.symm, .inl ⟨rfl, List.length_eq_zero_iff.1 hn, rfl, rfl⟩⟩, fun h => by cases h⟩
  · refine ⟨⟨g, 0, l.length, cap, false, none⟩, fun ρ id hid => by simp only [den, hid]; rfl, fun ρ => ⟨rfl, .inr ⟨rfl, rfl, hle, cur, hh, hs, ?_⟩⟩, fun _ => hg⟩
    rw [← hi]; exact ht
theorem C_of_row {k : IntKind} {e : Nat} {w : World} {L : Loc} {l : List Int} {ρ : Rho} (h : OK ρ w L (.row e [.int k] l)) (hl : l.length ≤ 9223372036854775807) :
    ∃ A c, (∀ (ρ' : Rho) id, ρ' id = L → den ρ' (.all id) = .slice A l.length c) ∧ l.length ≤ c ∧ Kd.C (Kd.int k) w A l.length l := by
  obtain ⟨hL, ⟨hn, hl0, hc⟩ | ⟨hn, ho, hle, arr, hh, hs, ht⟩⟩ := h
  · have hl0 : l = ([] : List Int) := hl0
    subst hl0
    exact ⟨none, 0, fun ρ' id hid => by simp only [den, hid, hn, hc.1, hc.2]; rfl, Nat.zero_le _, rfl, by simp, fun h => by simp at h⟩
  · refine ⟨some ⟨L.blk, L.off, none⟩, L.cap, fun ρ' id hid => by simp only [den, hid, hn]; rw [hL]; rfl, hle, rfl, hl, fun _ => ⟨_, rfl, fun j p hp => ⟨[Value.int k p], rfl, rfl, fun i u hu => ?_⟩⟩⟩
    have hi : i = 0 := by
      cases i with
      | zero => rfl
      | succ i => simp at hu
    subst hi
    simp at hu
    subst hu
    have ha : (⟨L.blk, L.off, none⟩ : Addr).add (j * 1 + 0) = ⟨L.blk, j, none⟩ := by
      unfold Addr.add
      split
      · rename_i h0; rw [ho]; congr 1; omega
      · rw [ho]; simp
    show w.cell? ((⟨L.blk, L.off, none⟩ : Addr).add (j * 1 + 0)) = _
    rw [ha, blk_cell hh j]
    have hj : j < l.length := (List.getElem?_eq_some_iff.1 hp).1
    have ht' : arr.toList.take (l.length * 1) = l.map (Value.int k) := by rw [← flat_int]; exact ht
    have h1 : (arr.toList.take (l.length * 1))[j]? = some (Value.int k p) := by
      rw [ht', List.getElem?_map, hp]; rfl
    rw [List.getElem?_take_of_lt (by omega)] at h1
    simpa using h1
abbrev numS (b : Bool) (i : Nat) : SV := .agg [.v (.bool b), .all i]
def okLen (l : List Int) : Bool := Nat.ble l.length 9223372036854775807
def rowOf (i : Nat) (k : List Int → Rd Out) : Rd Out := .obj i fun o => match o with
  | .row _ [.int .i64] l => .br (okLen l) (k l) .fail
  | _ => .fail
theorem rowOf_run {i : Nat} {k : List Int → Rd Out} {h : Hp} {out : Out} {ids : List Nat} (hr : (rowOf i k).run h = some (out, ids)) : ∃ (e : Nat) (l : List Int) (ids' : List Nat), look h i = some (.row e [.int .i64] l) ∧ l.length ≤ 9223372036854775807 ∧ (k l).run h = some (out, ids') := by
  unfold rowOf at hr
  simp only [Rd.run] at hr
  cases ho : look h i with
  | none => rw [ho] at hr; cases hr
  | some o =>
    rw [ho] at hr
    simp only [Option.map_eq_some_iff] at hr
    obtain ⟨⟨a, l'⟩, h1, h2⟩ := hr
    cases h2
    cases o with
    | row e s l =>
      match s, l, h1 with
      | [.int .i64], l, h1 =>
        simp only [Rd.run] at h1
        cases hb : okLen l with
        | false => rw [hb] at h1; cases h1
        | true =>
          rw [hb] at h1
          exact ⟨e, l, l', rfl, Nat.le_of_ble_eq_true hb, h1⟩
    | _ => cases h1
theorem gives_num {P : Program} {B : Nat → Prop} {f : FuncId} {fn : Func} (hf : P.funcs[f]? = some fn) (hname : (fn.name == "runtime.NumGoroutine") = false) (hbody : fn.body.isSome = true) {args : Array Value} {ρ : Rho} {h : Hp} {w : World} {lo : Nat} {b : Bool} {l : List Int} {e : Nat}
    (hr : HR B ρ h w) (hfr : HFree lo (lo + wide) h) (up : ∀ b, w.heap.size ≤ b → B b)
    (hc : Calls P f args w fun x w' => ∃ v : Value, x = .returned (.agg #[.bool b, v]) ∧ Kd.R (Kd.int .i64) e w' w.heap.size (fun _ => True) v l ∧ Below w.heap.size w w') :
    CallGives P f args w fun v w' => ∃ ρ', Made B ρ h w lo (lo + wide) ⟨numS b lo, [(lo, .row e [.int .i64] l)]⟩ ρ' v w' := by
  obtain ⟨c0, hbody⟩ := Option.isSome_iff_exists.1 hbody
  refine .inl ⟨run_callFunc_enter' hf hname hbody _ _, hc.mono ?_⟩
  rintro x w' ⟨v, rfl, hR, hb⟩
  obtain ⟨L, h1, h2, h3⟩ := row_of_R hR
  have m := made_new (s := numS b lo) (o := .row e [.int .i64] l) (L := L) hr hfr (show lo < lo + wide by unfold wide; omega) up (Keeps.of_below hb up) (fun k hk => hb.block k hk) rfl h3 (h2 _)
  have hv : den (setRho ρ lo L) (numS b lo) = .agg #[.bool b, v] := by
    simp only [numS, den, denL]
    have := h1 (setRho ρ lo L) lo (setRho_same _ _ _)
    simp only [den] at this
    rw [this]
  rw [hv] at m
  exact ⟨_, rfl, _, m⟩
theorem gives_plain {P : Program} {B : Nat → Prop} {f : FuncId} {fn : Func} (hf : P.funcs[f]? = some fn) (hname : (fn.name == "runtime.NumGoroutine") = false) (hbody : fn.body.isSome = true) {args : Array Value} {ρ : Rho} {h : Hp} {w : World} {lo : Nat} {v : Value}
    (hr : HR B ρ h w) (up : ∀ b, w.heap.size ≤ b → B b) (hc : Calls P f args w fun x w' => x = .returned v ∧ Below w.heap.size w w') :
    CallGives P f args w fun v' w' => ∃ ρ', Made B ρ h w lo (lo + wide) ⟨.v v, []⟩ ρ' v' w' := by
  obtain ⟨c0, hbody⟩ := Option.isSome_iff_exists.1 hbody
  refine .inl ⟨run_callFunc_enter' hf hname hbody _ _, hc.mono ?_⟩
  rintro x w' ⟨rfl, hb⟩
  exact ⟨_, rfl, ρ, rfl, fun _ _ => rfl, hr.keep hb.size fun i o ho hd hn => hb.block _ ((hr.ok i o ho).lt hd hn), Keeps.of_below hb up⟩
theorem gives_same {P : Program} {B : Nat → Prop} {f : FuncId} {fn : Func} (hf : P.funcs[f]? = some fn) (hname : (fn.name == "runtime.NumGoroutine") = false) (hbody : fn.body.isSome = true) {args : Array Value} {ρ : Rho} {h : Hp} {w : World} {lo : Nat} {s : SV}
    (hr : HR B ρ h w) (up : ∀ b, w.heap.size ≤ b → B b) (hc : Calls P f args w fun x w' => x = .returned (den ρ s) ∧ Below w.heap.size w w') :
    CallGives P f args w fun v' w' => ∃ ρ', Made B ρ h w lo (lo + wide) ⟨s, []⟩ ρ' v' w' := by
  obtain ⟨c0, hbody⟩ := Option.isSome_iff_exists.1 hbody
  refine .inl ⟨run_callFunc_enter' hf hname hbody _ _, hc.mono ?_⟩
  rintro x w' ⟨rfl, hb⟩
  exact ⟨_, rfl, ρ, rfl, fun _ _ => rfl, hr.keep hb.size fun i o ho hd hn => hb.block _ ((hr.ok i o ho).lt hd hn), Keeps.of_below hb up⟩
theorem calls_of_ev {P : Program} {C : FuncId → Option Con} {cn : Nat → St → Option St} {F : Nat} {f : FuncId} {fn : Func} {c0 : Code} (hm : P.follows .mixedOrders = true) (hf : P.funcs[f]? = some fn) (hname : (fn.name == "runtime.NumGoroutine") = false) (hbody : fn.body = some c0)
    (hC : ∀ B' g φ, C g = some φ → ConOk P B' g φ) (hcn : ∀ B' (w : World), CnOk cn B' (Base.of w) fn.ntmps) {args : List SV} {r : SV} (hev : evFn P C cn F fn args [] 0 K1 = some r) (ha : ltL 0 args = true) (hfa : freeL 0 wide args = true) (hr : r.lt 0 = true) (ρ : Rho) (w : World) :
    Calls P f (denL ρ args).toArray w fun e w' => e = .returned (den ρ r) ∧ Below w.heap.size w w' := by
  have hc : ∀ B, ConOk P B f (fun args' _ => Rd.br (ltL 0 args') (Rd.opt (evFn P C cn F fn args' [] 0 K1) fun r' => .ret ⟨r', []⟩) .fail) := con_pure hm hf hname hbody hC hcn fun args' lo h out ids hrun => by
    cases hl : ltL 0 args' with
    | false => rw [hl] at hrun; cases hrun
    | true =>
      rw [hl] at hrun
      cases he : evFn P C cn F fn args' [] 0 K1 with
      | none => rw [he] at hrun; cases hrun
      | some r' => rw [he] at hrun; cases hrun; exact ⟨rfl, rfl, rfl⟩
  refine calls_of_con hf hname hbody hc (args := args) (out := ⟨r, []⟩) (ids := []) ?_ hfa hr ρ w
  show (Rd.br (ltL 0 args) (Rd.opt (evFn P C cn F fn args [] 0 K1) fun r' => Rd.ret (Out.mk r' [])) Rd.fail).run [] = some (Out.mk r [], [])
  rw [ha, hev]; rfl
end Go.Proofs.Ytiajknfbbchfmaa.Ax
