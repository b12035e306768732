/- Callees of one object: what they read, what they write; and callees that make one. -/
import Derived.Test.YtmgfaoomdpgbhaaAx14
import Derived.Test.YtmgfaoomdpgbhaaWWords
import Derived.Test.YtmgfaoomdpgbhaaAx20
namespace Go.Proofs.Ytmgfaoomdpgbhaa.Ax
open Go Go.RowKit Go.Proofs.YtmgfaoomdpgbhaaW.PrintWords
set_option linter.unusedVariables false
set_option linter.unusedSimpArgs false
theorem gives_same {P : Program} {B : Nat → Prop} {f : FuncId} {fn : Func} (hf : P.funcs[f]? = some fn) (hname : (fn.name == "runtime.NumGoroutine") = false) (hbody : fn.body.isSome = true) {args : Array Value} {ρ : Rho} {h : Hp} {w : World} {lo : Nat} {s : SV}
    (hr : HR B ρ h w) (up : ∀ b, w.heap.size ≤ b → B b) (hc : Calls P f args w fun x w' => x = .returned (den ρ s) ∧ Below w.heap.size w w') :
    CallGives P f args w fun v' w' => ∃ ρ', Made B ρ h w lo (lo + wide) ⟨s, []⟩ ρ' v' w' := by
  obtain ⟨c0, hbody⟩ := Option.isSome_iff_exists.1 hbody
  refine .inl ⟨run_callFunc_enter' hf hname hbody _ _, hc.mono ?_⟩
  rintro x w' ⟨rfl, hb⟩
  exact ⟨_, rfl, ρ, rfl, fun _ _ => rfl, hr.keep hb.size fun i o ho hd hn => hb.block _ ((hr.ok i o ho).lt hd hn), Keeps.of_below hb up⟩
end Go.Proofs.Ytmgfaoomdpgbhaa.Ax
namespace Go.Proofs.Ytmgfaoomdpgbhaa.Ax
open Go Go.RowKit Go.Proofs.YtmgfaoomdpgbhaaW.PrintWords
set_option linter.unusedVariables false
set_option linter.unusedSimpArgs false
mutual
theorem ren_lt0 (m : Nat → Nat) : ∀ s : SV, s.lt 0 = true → ren m s = s
  | .v _, _ => rfl
  | .ptr id _, h => absurd (blt_lt h) (Nat.not_lt_zero _)
  | .elt id _ _ _, h => absurd (blt_lt h) (Nat.not_lt_zero _)
  | .slc id _ _ _ _, h => absurd (blt_lt h) (Nat.not_lt_zero _)
  | .all id, h => absurd (blt_lt h) (Nat.not_lt_zero _)
  | .map id, h => absurd (blt_lt h) (Nat.not_lt_zero _)
  | .fn _ fi ca, h => by
    simp only [SV.lt, Bool.and_eq_true] at h
    simp only [ren]; rw [renL_lt0 m fi h.1, renL_lt0 m ca h.2]
  | .agg l, h => by simp only [ren]; rw [renL_lt0 m l h]
  | .tup l, h => by simp only [ren]; rw [renL_lt0 m l h]
theorem renL_lt0 (m : Nat → Nat) : ∀ l : List SV, ltL 0 l = true → renL m l = l
  | [], _ => rfl
  | s :: l, h => by
    simp only [ltL, Bool.and_eq_true] at h
    simp only [renL]; rw [ren_lt0 m s h.1, renL_lt0 m l h.2]
end
section
variable {P : Program} {C : FuncId → Option Con} {cn : Nat → St → Option St} {F : Nat} {B : Nat → Prop} {f : FuncId} {fn : Func} {ρ : Rho} {h : Hp} {w : World} {lo : Nat}
theorem con_ro1 (hm : P.follows .mixedOrders = true) (hf : P.funcs[f]? = some fn) (hname : (fn.name == "runtime.NumGoroutine") = false) (hbody : fn.body.isSome = true)
    (hC : ∀ B' g φ, C g = some φ → ConOk P B' g φ) (hcn : ∀ B' (w : World), CnOk cn B' (Base.of w) fn.ntmps) {ty id : Nat} {c rest : List SV} {r : SV} {o : AObj} (hc : ltL 0 c = true) (hrest : ltL 0 rest = true)
    (hev : evFn P C cn F fn (.ptr 0 0 :: rest) [(0, .ro ty c)] 1 K1 = some r) (hr : HR B ρ h w) (up : ∀ b, w.heap.size ≤ b → B b) (ho : look h id = some o) (hk : o = .cells ty c ∨ o = .ro ty c) :
    CallGives P f (denL ρ (.ptr id 0 :: rest)).toArray w fun v w' => ∃ ρ', Made B ρ h w lo (lo + wide) ⟨r, []⟩ ρ' v w' := by
  obtain ⟨c0, hbody⟩ := Option.isSome_iff_exists.1 hbody
  have := con_reads (B := B) hm hf hname hbody hC hcn (.ptr 0 0 :: rest) (fun _ => id) [(0, .ro ty c)] 1 r K1_spec hev ρ h w lo hr up
    (by simp only [ltL, SV.lt, ltL_mono (Nat.zero_le 1) rest hrest, Bool.and_true]; rfl)
    (fun i oc hi => by
      simp only [look] at hi
      by_cases e : 0 = i
      · subst e; cases hi; exact ⟨by decide, ltL_mono (Nat.zero_le 1) c hc⟩
      · rw [beq_no e] at hi; cases hi)
    (fun i oc hi => by
      simp only [look] at hi
      by_cases e : 0 = i
      · subst e
        cases hi
        refine ⟨o, ho, ?_⟩
        simp only [Reads, renL_lt0 _ c hc]
        exact hk
      · rw [beq_no e] at hi; cases hi)
  have hargs : renL (fun _ => id) (.ptr 0 0 :: rest) = .ptr id 0 :: rest := by
    simp only [renL, ren, renL_lt0 _ rest hrest]
  rw [hargs] at this
  exact this
theorem con_mut1 (hm : P.follows .mixedOrders = true) (hf : P.funcs[f]? = some fn) (hname : (fn.name == "runtime.NumGoroutine") = false) (hbody : fn.body.isSome = true)
    (hC : ∀ B' g φ, C g = some φ → ConOk P B' g φ) (hcn : ∀ B' (w0 : Base), w0.pin ≤ 1 → CnOk cn B' w0 fn.ntmps) {ty id : Nat} {c c' rest : List SV} {r : SV} (hc : ltL 0 c = true) (hc' : ltL 0 c' = true) (hr0 : r.lt 0 = true) (hrest : ltL 0 rest = true)
    (hev : evFn P C cn F fn (.ptr 0 0 :: rest) [(0, .cells ty c)] 1 (KO 1) = some (r, [(0, .cells ty c')])) (hr : HR B ρ h w) (hfree : HFree lo (lo + wide) h) (up : ∀ b, w.heap.size ≤ b → B b) (ho : look h id = some (.cells ty c)) :
    CallGives P f (denL ρ (.ptr id 0 :: rest)).toArray w fun v w' => ∃ ρ', Made B ρ h w lo (lo + wide) ⟨r, [(id, .cells ty c')]⟩ ρ' v w' := by
  obtain ⟨c0, hbody⟩ := Option.isSome_iff_exists.1 hbody
  have hlk : ∀ i oc, look [(0, AObj.cells ty c)] i = some oc → i = 0 ∧ oc = .cells ty c := fun i oc hi => by
    simp only [look] at hi
    by_cases e : 0 = i
    · subst e; cases hi; exact ⟨rfl, rfl⟩
    · rw [beq_no e] at hi; cases hi
  have := con_own (B := B) hm hf hname hbody hC (p := 1) hcn (.ptr 0 0 :: rest) (fun _ => id) [(0, .cells ty c)] r [(0, .cells ty c')] hev ρ h w lo hr hfree up
    (by simp only [ltL, SV.lt, ltL_mono (Nat.zero_le 1) rest hrest, Bool.and_true]; rfl)
    (fun i oc hi => by obtain ⟨rfl, rfl⟩ := hlk i oc hi; exact ⟨by decide, ltL_mono (Nat.zero_le 1) c hc⟩)
    (fun i hi => (hfree id _ ho).1)
    (fun i oc hi => by
      obtain ⟨rfl, rfl⟩ := hlk i oc hi
      refine ⟨_, ho, ?_⟩
      have := View.own (m := fun _ => id) ty c
      rwa [renL_lt0 _ c hc] at this)
    (fun i j oc oc' hi hj hij hw => by obtain ⟨rfl, rfl⟩ := hlk i oc hi; obtain ⟨rfl, rfl⟩ := hlk j oc' hj; exact absurd rfl hij)
    (fun i oc hi hw => by obtain ⟨rfl, rfl⟩ := hlk i oc hi; exact ⟨_, rfl, .inl rfl⟩)
  have hargs : renL (fun _ => id) (.ptr 0 0 :: rest) = .ptr id 0 :: rest := by
    simp only [renL, ren, renL_lt0 _ rest hrest]
  rw [hargs] at this
  have hout : (⟨ren (mr (fun _ => id) 1 lo) r, updGo (mr (fun _ => id) 1 lo) [(0, .cells ty c')] [(0, .cells ty c')]⟩ : Out) = ⟨r, [(id, .cells ty c')]⟩ := by
    rw [ren_lt0 _ r hr0]
    show (⟨r, [(id, .cells ty (renL _ c'))]⟩ : Out) = _
    rw [renL_lt0 _ c' hc']
  rw [hout] at this
  exact this
theorem con_new1 (hm : P.follows .mixedOrders = true) (hf : P.funcs[f]? = some fn) (hname : (fn.name == "runtime.NumGoroutine") = false) (hbody : fn.body.isSome = true)
    (hC : ∀ B' g φ, C g = some φ → ConOk P B' g φ) (hcn : ∀ B' (w0 : Base), w0.pin ≤ 0 → CnOk cn B' w0 fn.ntmps) {args : List SV} {r : SV} {hp' : Hp} (ha : ltL 0 args = true)
    (hev : evFn P C cn F fn args [] 0 (KO 0) = some (r, hp')) (hr : HR B ρ h w) (hfree : HFree lo (lo + wide) h) (up : ∀ b, w.heap.size ≤ b → B b) :
    CallGives P f (denL ρ args).toArray w fun v w' => ∃ ρ', Made B ρ h w lo (lo + wide) ⟨ren (fun i => lo + i) r, updGo (fun i => lo + i) hp' hp'⟩ ρ' v w' := by
  obtain ⟨c0, hbody⟩ := Option.isSome_iff_exists.1 hbody
  have := con_own (B := B) hm hf hname hbody hC (p := 0) hcn args (fun i => i) [] r hp' hev ρ h w lo hr hfree up ha
    (fun i oc hi => by cases hi) (fun i hi => absurd hi (Nat.not_lt_zero _)) (fun i oc hi => by cases hi) (fun i j oc oc' hi => by cases hi) (fun i oc hi => by cases hi)
  rw [renL_lt0 _ args ha] at this
  have hm0 : mr (fun i => i) 0 lo = fun i => lo + i := by funext i; rfl
  rw [hm0] at this
  exact this
end
theorem arg_of_C {α : Type} {d : Kd α} {s : List Sc} {f : α → TT s} (hd : ∀ w x c, d.K w x c → c = enc s (f x)) (hsz : d.sz = s.length) (hs0 : 0 < s.length) {w : World} {A : Option Addr} {c : Nat} {l : List α} (h : Kd.C d w A l.length l) (hc : l.length ≤ c) (hl : l ≠ []) :
    ∃ L : Loc, L.nil = false ∧ L.len = l.length ∧ L.cap = c ∧ A = some ⟨L.blk, L.off, none⟩ ∧ (∀ ρ, OK ρ w L (.arg s (l.map f))) := by
  have hpos : 0 < l.length := by cases l with | nil => exact absurd rfl hl | cons => simp
  obtain ⟨h1, h2, h3⟩ := h
  obtain ⟨ad, rfl, hcell⟩ := h3 hpos
  have cells : ∀ j p, l[j]? = some p → ∀ i u, (enc s (f p))[i]? = some u → w.cell? (ad.add (j * s.length + i)) = some u := by
    intro j p hp i u hu
    obtain ⟨cs, k1, k2, k3⟩ := hcell j p hp
    have := k3 i u (by rw [hd w p cs k2]; exact hu)
    rwa [hsz] at this
  obtain ⟨p0, hp0⟩ : ∃ p0, l[0]? = some p0 := ⟨_, List.getElem?_eq_getElem hpos⟩
  obtain ⟨u0, hu0⟩ : ∃ u0, (enc s (f p0))[0]? = some u0 := ⟨_, List.getElem?_eq_getElem (by rw [enc_length]; exact hs0)⟩
  have c0 := cells 0 p0 hp0 0 u0 hu0
  have hz : ad.add (0 * s.length + 0) = ad := by unfold Addr.add; rw [if_pos (by omega)]
  rw [hz] at c0
  have hsp : ad.spot = none ∧ ad.block < w.heap.size := by
    unfold World.cell? at c0
    cases hb : w.heap[ad.block]? with
    | none => rw [hb] at c0; cases c0
    | some o =>
      refine ⟨?_, (Array.getElem?_eq_some_iff.1 hb).1⟩
      rw [hb] at c0
      cases o with
      | cells cc ty fr =>
        simp only at c0
        cases hs : ad.spot with
        | none => rfl
        | some z => rw [hs] at c0; simp at c0
      | _ => cases c0
  have hadd : ∀ n, ad.add n = ⟨ad.block, ad.off + n, none⟩ := by
    intro n
    unfold Addr.add
    split
    · rename_i e; subst e; cases ad; simp at hsp; simp [hsp.1]
    · rfl
  refine ⟨⟨ad.block, ad.off, l.length, c, false, none⟩, rfl, rfl, rfl, ?_, fun ρ => ⟨by simp, .inr ⟨rfl, hsp.2, by simp; exact hc, fun j v hv => ?_⟩⟩⟩
  · cases ad; simp at hsp; simp [hsp.1]
  · -- the flat cells
    have hfl : ∀ (l : List α) (j : Nat) (v : Value), (flat s (l.map f))[j]? = some v → ∃ q p, l[q]? = some p ∧ (enc s (f p))[j - q * s.length]? = some v ∧ q * s.length ≤ j := by
      intro l
      induction l with
      | nil => intro j v hv; simp [flat] at hv
      | cons x l ih =>
        intro j v hv
        simp only [flat, List.map_cons, List.flatten_cons] at hv ih
        by_cases hj : j < s.length
        · rw [List.getElem?_append_left (by rw [enc_length]; exact hj)] at hv
          exact ⟨0, x, rfl, by simpa using hv, by omega⟩
        · rw [List.getElem?_append_right (by rw [enc_length]; omega), enc_length] at hv
          obtain ⟨q, p, k1, k2, k3⟩ := ih (j - s.length) v hv
          refine ⟨q + 1, p, by simpa using k1, ?_, by rw [Nat.succ_mul]; omega⟩
          rw [Nat.succ_mul, show j - (q * s.length + s.length) = j - s.length - q * s.length by omega]
          exact k2
    obtain ⟨q, p, k1, k2, k3⟩ := hfl l j v hv
    have := cells q p k1 _ v k2
    rw [show q * s.length + (j - q * s.length) = j by omega, hadd] at this
    exact this
end Go.Proofs.Ytmgfaoomdpgbhaa.Ax
