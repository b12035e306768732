/- AX 12: what the evaluator makes of a function; contracts out of it. -/
import Derived.Test.YtcheokphnhjomaaAx11
namespace Go
theorem run_callFunc_enter' {P : Program} {f : FuncId} {fn : Func} {c : Code} (hf : P.funcs[f]? = some fn) (hname : (fn.name == "runtime.NumGoroutine") = false) (hb : fn.body = some c) (args : Array Value) (w : World) :
    (callFunc f args).run P w = .ok (.enter f args) w := by
  have h1 : fn.name ≠ "runtime.NumGoroutine" := by simpa using hname
  simp [callFunc, hf, h1, hb]
end Go
namespace Go.Proofs.Ytcheokphnhjomaa.Ax
open Go Go.RowKit
set_option linter.unusedVariables false
set_option linter.unusedSimpArgs false

def resS (P : Program) (σ : St) : List ResultVar → Option (List SV)
  | [] => some []
  | .tmp t :: l => match look σ.sl t with
    | none => none
    | some s => match resS P σ l with
      | none => none
      | some r => some (s :: r)
  | .cell a t :: l => match look σ.sl a with
    | some (.ptr id off) => match look σ.hp id with
      | some (.cells _ c) => match aggT P t with
        | none => none
        | some g => match szT P t with
          | none => none
          | some z => match part1 c g off z with
            | none => none
            | some s => match resS P σ l with
              | none => none
              | some r => some (s :: r)
      | _ => none
    | _ => none
def resV : List SV → SV
  | [s] => s
  | l => .tup l

theorem run_asAddr {P : Program} (a : Addr) (w : World) : (asAddr (.pointer (some a))).run P w = .ok a w := rfl

def resOne (a : Act) : ResultVar → Sem Value
  | .tmp t => pure (a.tmps.getD t undef)
  | .cell p t => do loadVar t (← asAddr (a.tmps.getD p undef))
theorem resS_run {P : Program} {B : Nat → Prop} {w0 w : World} {n : Nat} {σ : St} {ρ : Rho} {a : Act} (hR : R B w0 n σ ρ a w) : ∀ {l : List ResultVar} {r : List SV}, resS P σ l = some r →
    (l.mapM (resOne a)).run P w = .ok (denL ρ r) w
  | [], r, h => by cases h; rfl
  | .tmp t :: l, r, h => by
    simp only [resS] at h
    cases hs : look σ.sl t with
    | none => rw [hs] at h; cases h
    | some s =>
      rw [hs] at h
      cases hl : resS P σ l with
      | none => rw [hl] at h; cases h
      | some r' =>
        rw [hl] at h
        cases h
        have ih := resS_run hR hl
        simp only [List.mapM_cons, Sem.run_bind, resOne, Sem.run_pure, Result.andThen_ok, ih, (hR.sl t s hs).2, denL]
  | .cell p t :: l, r, h => by
    simp only [resS] at h
    split at h
    · rename_i id off hs
      split at h
      · rename_i ty c ho
        split at h
        · cases h
        · rename_i g hg
          split at h
          · cases h
          · rename_i z hz
            split at h
            · cases h
            · rename_i s hp
              split at h
              · cases h
              · rename_i r' hl
                cases h
                have ih := resS_run hR hl
                obtain ⟨k1, k2, k3⟩ := hR.hr.ok _ _ ho
                have hv := run_loadVar_at (P := P) k3 hg hz hp
                have he : a.tmps.getD p undef = .pointer (some ⟨(ρ id).blk, off, none⟩) := by
                  rw [(hR.sl p _ hs).2]
                  simp only [den, k2, Nat.zero_add]
                simp only [List.mapM_cons, resOne, Sem.run_bind, Sem.run_pure, Result.andThen_ok, ih, he, run_asAddr, hv, denL]
      · cases h
    · cases h

theorem results_run {P : Program} {B : Nat → Prop} {w0 w : World} {n : Nat} {σ : St} {ρ : Rho} {a : Act} {fn : Func} (hR : R B w0 n σ ρ a w) {r : List SV} (h : resS P σ fn.results.toList = some r) :
    (results fn a.tmps).run P w = .ok (den ρ (resV r)) w := by
  have h1 := resS_run hR h
  have h2 : (fn.results.mapM (resOne a)) = List.toArray <$> fn.results.toList.mapM (resOne a) := Array.mapM_eq_mapM_toList
  have h3 : results fn a.tmps = (fn.results.mapM (resOne a)) >>= fun vs => pure (if h : vs.size = 1 then vs[0] else .tuple vs) := by
    unfold results
    congr 1
  rw [h3, Sem.run_bind, h2, Sem.run_map, h1]
  simp only [Result.andThen_ok, Sem.run_pure]
  congr 1
  match r with
  | [] => rfl
  | [s] => rfl
  | s :: s' :: r => simp [resV, den, denL]

section
variable (P : Program) (C : FuncId → Option Con) (cn : Nat → St → Option St) (F : Nat)

def argSl : Nat → List SV → List (Nat × SV)
  | _, [] => []
  | i, s :: l => (i, s) :: argSl (i + 1) l

/-- A function, run over names: what it gives back, and the heap, told on. -/
def evFn {β : Type} (fn : Func) (args : List SV) (hp : Hp) (nx : Nat) (K : SV → Hp → Option β) : Option β :=
  match fn.body with
  | none => none
  | some c => cond (Nat.ble args.length fn.ntmps) (ev (eff P C) fn.ntmps cn F c ⟨argSl 0 args, hp, nx⟩ fun e σ' => match e with
    | .exit _ => none
    | _ => match resS P σ' fn.results.toList with
      | none => none
      | some l => K (resV l) σ'.hp) none

variable {P C cn F}

theorem look_argSl : ∀ (l : List SV) (i t : Nat) (s : SV), look (argSl i l) t = some s → i ≤ t ∧ l[t - i]? = some s
  | [], _, _, _, h => by cases h
  | x :: l, i, t, s, h => by
    simp only [argSl, look] at h
    by_cases e : i = t
    · subst e
      rw [Nat.beq_refl] at h
      cases h
      exact ⟨Nat.le_refl _, by simp⟩
    · rw [beq_no e] at h
      obtain ⟨h1, h2⟩ := look_argSl l (i + 1) t s h
      refine ⟨by omega, ?_⟩
      rw [show t - i = (t - (i + 1)) + 1 by omega, List.getElem?_cons_succ]
      exact h2

/-- The evaluator is sound for a whole function. -/
theorem evFn_sound {β : Type} {B : Nat → Prop} {f : FuncId} {fn : Func} (hm : P.follows .mixedOrders = true) (hf : P.funcs[f]? = some fn) (hC : ∀ g φ, C g = some φ → ConOk P B g φ) {args : List SV} {hp : Hp} {nx : Nat} {K : SV → Hp → Option β} {b : β}
    (h : evFn P C cn F fn args hp nx K = some b) (ρ : Rho) (w : World) (hc : CnOk cn B w fn.ntmps) (hr : HR B ρ hp w) (hw : ∀ i o, look hp i = some o → i < nx ∧ o.lt nx = true) (ha : ltL nx args = true) (up : ∀ b, w.heap.size ≤ b → B b) :
    Calls P f (denL ρ args).toArray w fun e w' => ∃ ρ' s h', e = .returned (den ρ' s) ∧ K s h' = some b ∧ HR B ρ' h' w' ∧ Keeps B w w' := by
  unfold evFn at h
  cases hb : fn.body with
  | none => rw [hb] at h; cases h
  | some c =>
    rw [hb] at h
    simp only at h
    cases hn : Nat.ble args.length fn.ntmps with
    | false => rw [hn] at h; cases h
    | true =>
      rw [hn] at h
      simp only [cond_true] at h
      have hn := Nat.le_of_ble_eq_true hn
      have hlen : (denL ρ args).toArray.size = args.length := by simp [denL_length]
      refine calls_of_wp hf hb ?_
      have hR : R B w fn.ntmps ⟨argSl 0 args, hp, nx⟩ ρ { tmps := (denL ρ args).toArray ++ Array.replicate (fn.ntmps - (denL ρ args).toArray.size) undef, defers := [] } w := by
        refine ⟨by simp [denL_length]; omega, rfl, fun t s hs => ?_, hr, up, Keeps.refl _ _⟩
        obtain ⟨_, h2⟩ := look_argSl args 0 t s hs
        have h2 : args[t]? = some s := h2
        have hlt := (List.getElem?_eq_some_iff.1 h2).1
        refine ⟨by omega, ?_⟩
        have h3 : (denL ρ args)[t]? = some (den ρ s) := by rw [denL_getElem?, h2]; rfl
        have hsz : t < ((denL ρ args).toArray ++ Array.replicate (fn.ntmps - (denL ρ args).toArray.size) undef).size := by simp [denL_length]; omega
        simp only [Array.getD, hsz, dif_pos]
        have : ((denL ρ args).toArray ++ Array.replicate (fn.ntmps - (denL ρ args).toArray.size) undef)[t]? = some (den ρ s) := by
          rw [Array.getElem?_append_left (by simp [denL_length]; omega)]
          simpa using h3
        rw [Array.getElem?_eq_getElem hsz] at this
        exact Option.some.inj this
      have hwf : Wf ⟨argSl 0 args, hp, nx⟩ := by
        refine ⟨fun t s hs => ?_, hw⟩
        obtain ⟨_, h2⟩ := look_argSl args 0 t s hs
        have : ∀ l : List SV, ltL nx l = true → ∀ s ∈ l, s.lt nx = true := by
          intro l
          induction l with
          | nil => intro _ s hs; cases hs
          | cons x l ih =>
            intro hl s hs
            simp only [ltL, Bool.and_eq_true] at hl
            rcases List.mem_cons.1 hs with hs | hs
            · subst hs; exact hl.1
            · exact ih hl.2 s hs
        exact this args ha s (List.mem_of_getElem? h2)
      refine wp_mono (ev_sound hm (eff_sound hC) hc c _ _ b h ρ _ w hwf hR) ?_
      rintro e' a' w' ⟨e, σ', ρ', rfl, hk, hw', hR'⟩
      have fin : ∀ (hk : (match resS P σ' fn.results.toList with | none => none | some l => K (resV l) σ'.hp) = some b),
          a'.defers = [] ∧ ∃ v, (results fn a'.tmps).run P w' = .ok v w' ∧ (∃ ρ'' s h', Ending.returned v = .returned (den ρ'' s) ∧ K s h' = some b ∧ HR B ρ'' h' w' ∧ Keeps B w w') := by
        intro hk
        cases hres : resS P σ' fn.results.toList with
        | none => rw [hres] at hk; cases hk
        | some l =>
          rw [hres] at hk
          exact ⟨hR'.df, _, results_run hR' hres, ρ', resV l, σ'.hp, rfl, hk, hR'.hr, hR'.ks⟩
      cases e with
      | normal => exact fin hk
      | exit id => cases hk
      | ret => exact fin hk

/-! Contracts. -/
mutual
theorem den_lt0 {ρ ρ' : Rho} : ∀ s : SV, s.lt 0 = true → den ρ' s = den ρ s
  | .v _, _ => rfl
  | .ptr id _, h => absurd (blt_lt h) (Nat.not_lt_zero _)
  | .elt id _ _ _, h => absurd (blt_lt h) (Nat.not_lt_zero _)
  | .slc id _ _ _ _, h => absurd (blt_lt h) (Nat.not_lt_zero _)
  | .all id, h => absurd (blt_lt h) (Nat.not_lt_zero _)
  | .map id, h => absurd (blt_lt h) (Nat.not_lt_zero _)
  | .fn _ fi ca, h => by
    simp only [SV.lt, Bool.and_eq_true] at h
    simp only [den]; rw [denL_lt0 fi h.1, denL_lt0 ca h.2]
  | .agg l, h => by simp only [den]; rw [denL_lt0 l h]
  | .tup l, h => by simp only [den]; rw [denL_lt0 l h]
theorem denL_lt0 {ρ ρ' : Rho} : ∀ l : List SV, ltL 0 l = true → denL ρ' l = denL ρ l
  | [], _ => rfl
  | s :: l, h => by
    simp only [ltL, Bool.and_eq_true] at h
    simp only [denL]; rw [den_lt0 s h.1, denL_lt0 l h.2]
end

/-! Names renamed. -/
mutual
def ren (m : Nat → Nat) : SV → SV
  | .v x => .v x
  | .ptr id off => .ptr (m id) off
  | .elt id n i sub => .elt (m id) n i sub
  | .slc id n off len cap => .slc (m id) n off len cap
  | .all id => .all (m id)
  | .map id => .map (m id)
  | .fn f fi ca => .fn f (renL m fi) (renL m ca)
  | .agg l => .agg (renL m l)
  | .tup l => .tup (renL m l)
def renL (m : Nat → Nat) : List SV → List SV
  | [] => []
  | s :: l => ren m s :: renL m l
end
mutual
theorem den_ren (ρ : Rho) (m : Nat → Nat) : ∀ s : SV, den ρ (ren m s) = den (fun i => ρ (m i)) s
  | .v _ | .ptr _ _ | .elt _ _ _ _ | .slc _ _ _ _ _ | .all _ | .map _ => rfl
  | .fn _ fi ca => by simp only [ren, den]; rw [denL_ren ρ m fi, denL_ren ρ m ca]
  | .agg l => by simp only [ren, den]; rw [denL_ren ρ m l]
  | .tup l => by simp only [ren, den]; rw [denL_ren ρ m l]
theorem denL_ren (ρ : Rho) (m : Nat → Nat) : ∀ l : List SV, denL ρ (renL m l) = denL (fun i => ρ (m i)) l
  | [] => rfl
  | s :: l => by simp only [renL, denL]; rw [den_ren ρ m s, denL_ren ρ m l]
end

/-- A name's thing, as another function may read it. -/
def Reads (m : Nat → Nat) (o : AObj) : AObj → Prop
  | .ro ty c => o = .cells ty (renL m c) ∨ o = .ro ty (renL m c)
  | .arg s l => (∃ ty, o = .row ty s l) ∨ o = .arg s l
  | _ => False
theorem Reads.shared {m : Nat → Nat} {o oc : AObj} (h : Reads m o oc) : oc.shared = true := by
  cases oc <;> first | rfl | cases h
theorem Reads.ok {m : Nat → Nat} {ρ : Rho} {w : World} {L : Loc} {o oc : AObj} (h : Reads m o oc) (hk : OK ρ w L o) : OK (fun i => ρ (m i)) w L oc := by
  cases oc with
  | ro ty c =>
    rcases h with h | h <;> subst h
    · obtain ⟨h1, h2, h3⟩ := hk
      exact ⟨h1, h2, by rw [← denL_ren]; exact h3⟩
    · obtain ⟨h1, h2, h3⟩ := hk
      exact ⟨h1, h2, by rw [← denL_ren]; exact h3⟩
  | arg s l =>
    rcases h with ⟨ty, h⟩ | h <;> subst h
    · obtain ⟨h0, h | ⟨h1, h2, h3, arr, h4, h5, h6⟩⟩ := hk
      · exact ⟨h0, .inl h⟩
      · refine ⟨h0, .inr ⟨h1, (Array.getElem?_eq_some_iff.1 h4).1, h3, fun j v hv => ?_⟩⟩
        rw [h2, Nat.zero_add, cell_of_row w _ _ _ _ _ h4]
        rw [← h6, List.getElem?_take] at hv
        split at hv
        · simpa using hv
        · cases hv
    · exact hk
  | _ => cases h

/-- A function that reads what it is given, and gives back what bears no name: what the evaluator makes of it over names of its own. -/
theorem con_reads {B : Nat → Prop} {f : FuncId} {fn : Func} {c0 : Code} (hm : P.follows .mixedOrders = true) (hf : P.funcs[f]? = some fn) (hname : (fn.name == "runtime.NumGoroutine") = false) (hbody : fn.body = some c0)
    (hC : ∀ B' g φ, C g = some φ → ConOk P B' g φ) (hcn : ∀ B' w, CnOk cn B' w fn.ntmps) (args : List SV) (m : Nat → Nat) (hc : Hp) (nx : Nat) (r : SV) {K : SV → Hp → Option SV}
    (hK : ∀ s h' x, K s h' = some x → x = s ∧ s.lt 0 = true) (hev : evFn P C cn F fn args hc nx K = some r)
    (ρ : Rho) (h : Hp) (w : World) (lo : Nat) (hr : HR B ρ h w) (up : ∀ b, w.heap.size ≤ b → B b)
    (hargs : ltL nx args = true) (hwf : ∀ i oc, look hc i = some oc → i < nx ∧ oc.lt nx = true) (hreads : ∀ i oc, look hc i = some oc → ∃ o, look h (m i) = some o ∧ Reads m o oc) :
    CallGives P f (denL ρ (renL m args)).toArray w fun v w' => ∃ ρ', Made B ρ h w lo (lo + wide) ⟨r, []⟩ ρ' v w' := by
  refine .inl ⟨Go.run_callFunc_enter' hf hname hbody _ _, ?_⟩
  rw [denL_ren]
  have hrc : HR (fun b => w.heap.size ≤ b) (fun i => ρ (m i)) hc w := by
    refine ⟨fun i oc ho => ?_, fun i oc ho hown => ?_, fun i oc ho hs hn => ?_, fun i j o o' ho ho' hown => ?_⟩
    · obtain ⟨o, h1, h2⟩ := hreads i oc ho
      exact h2.ok (hr.ok _ _ h1)
    · obtain ⟨o, h1, h2⟩ := hreads i oc ho
      have := h2.shared
      cases oc <;> first | (cases hown; done) | (cases this; done)
    · obtain ⟨o, h1, h2⟩ := hreads i oc ho
      have hk := h2.ok (hr.ok _ _ h1)
      have := hk.lt (fun e => by subst e; cases hs) hn
      show ¬ w.heap.size ≤ _
      omega
    · obtain ⟨o1, h1, h2⟩ := hreads i o ho
      have := h2.shared
      cases o <;> first | (cases hown; done) | (cases this; done)
  refine (evFn_sound hm hf (hC _) hev _ w (hcn _ w) hrc hwf hargs (fun b hb => hb)).mono ?_
  rintro e w' ⟨ρ', s, h', rfl, hk, _, hks⟩
  obtain ⟨rfl, hlt⟩ := hK _ _ _ hk
  refine ⟨_, rfl, ρ, ?_⟩
  have hb : Below w.heap.size w w' := hks.below (fun b hb => hb)
  refine ⟨den_lt0 _ hlt, fun _ _ => rfl, hr.keep hb.size fun i o ho hd hn => hb.block _ ((hr.ok i o ho).lt hd hn), Keeps.of_below hb up⟩

end
end Go.Proofs.Ytcheokphnhjomaa.Ax
