/- AX 21: what the evaluator tells, it tells on: contracts that are the evaluator's own (a callee walked in its caller's walk). -/
import Derived.Test.YtbmapmigiokbcaaAx14
namespace Go.Proofs.Ytbmapmigiokbcaa.Ax
open Go Go.RowKit
set_option linter.unusedVariables false
set_option linter.unusedSimpArgs false
mutual
theorem lt_ids {n : Nat} : ∀ s : SV, s.lt n = true → s.ids (fun i => Nat.blt i n) = true
  | .v _, _ => rfl
  | .ptr id _, h => h
  | .elt id _ _ _, h => h
  | .slc id _ _ _ _, h => h
  | .all id, h => h
  | .map id, h => h
  | .fn _ fi ca, h => by
    simp only [SV.lt, Bool.and_eq_true] at h
    simp only [SV.ids, lt_idsL fi h.1, lt_idsL ca h.2, Bool.and_true]
  | .agg l, h => lt_idsL l h
  | .tup l, h => lt_idsL l h
theorem lt_idsL {n : Nat} : ∀ l : List SV, ltL n l = true → idsL (fun i => Nat.blt i n) l = true
  | [], _ => rfl
  | s :: l, h => by
    simp only [ltL, Bool.and_eq_true] at h
    simp only [idsL, lt_ids s h.1, lt_idsL l h.2, Bool.and_true]
end
def KG (G : St → Option St) (p : Nat) (s : SV) (h : Hp) : Option (SV × Hp) := match G ⟨[(0, s)], h, 0⟩ with
  | none => none
  | some σ => match look σ.sl 0 with
    | none => none
    | some s' => cond (Nat.ble σ.nx (p + wide)) (forceV s' fun s'' => forceHp σ.hp fun h' => some (s'', h')) none
def GOk (G : St → Option St) (p : Nat) : Prop := ∀ (B : Nat → Prop) (w0 : Base) (n : Nat) (σ σ' : St), w0.pin ≤ p → G σ = some σ' → Wf w0.pin σ' ∧ ∀ ρ a w, R B w0 n σ ρ a w → ∃ ρ', R B w0 n σ' ρ' a w
theorem gc_GOk (p : Nat) : GOk (gcSt [0] p) p := fun B w0 n σ σ' hp h => gcSt_ok hp h
def mr (m : Nat → Nat) (p lo i : Nat) : Nat := cond (Nat.blt i p) (m i) (lo + (i - p))
def AObj.isDead : AObj → Bool
  | .dead => true
  | _ => false
theorem AObj.of_isDead {o : AObj} (h : o.isDead = true) : o = .dead := by cases o <;> first | rfl | cases h
def updGo (r : Nat → Nat) (H : Hp) : Hp → List (Nat × AObj)
  | [] => []
  | (i, _) :: l => match look H i with
    | some o => cond (o.own || o.isDead) ((r i, renO r o) :: updGo r H l) (updGo r H l)
    | none => updGo r H l
theorem updGo_mem {r : Nat → Nat} {H : Hp} : ∀ {l : Hp} {j : Nat} {x : AObj}, (j, x) ∈ updGo r H l → ∃ i o, look H i = some o ∧ (o.own = true ∨ o = .dead) ∧ j = r i ∧ x = renO r o
  | [], _, _, h => by cases h
  | (i, _) :: l, j, x, h => by
    simp only [updGo] at h
    split at h
    · rename_i o ho
      cases hw : (o.own || o.isDead) with
      | false => rw [hw] at h; exact updGo_mem h
      | true =>
        rw [hw] at h
        rw [Bool.or_eq_true] at hw
        rcases List.mem_cons.1 h with h | h
        · cases h; exact ⟨i, o, ho, hw.imp id AObj.of_isDead, rfl, rfl⟩
        · exact updGo_mem h
    · exact updGo_mem h
theorem look_key {H : Hp} {i : Nat} {o : AObj} (h : look H i = some o) : ∃ x, (i, x) ∈ H := by
  induction H with
  | nil => cases h
  | cons q l ih =>
    obtain ⟨k, y⟩ := q
    simp only [look] at h
    by_cases e : k = i
    · subst e; exact ⟨y, by simp⟩
    · rw [beq_no e] at h
      obtain ⟨x, hx⟩ := ih h
      exact ⟨x, by simp [hx]⟩
theorem updGo_has {r : Nat → Nat} {H : Hp} {i : Nat} {o : AObj} (h : look H i = some o) (hw : o.own = true ∨ o = .dead) : ∀ {l : Hp}, (∃ x, (i, x) ∈ l) → ∃ x, (r i, x) ∈ updGo r H l
  | [], ⟨x, hx⟩ => by cases hx
  | (k, y) :: l, ⟨x, hx⟩ => by
    simp only [updGo]
    rcases List.mem_cons.1 hx with hx | hx
    · cases hx
      rw [h]
      have hw' : (o.own || o.isDead) = true := by
        rcases hw with hw | hw
        · rw [hw]; rfl
        · rw [hw]; rfl
      simp only [hw', cond_true]
      exact ⟨_, List.mem_cons.2 (.inl rfl)⟩
    · obtain ⟨z, hz⟩ := updGo_has h hw ⟨x, hx⟩
      split
      · rename_i o' _
        cases (o'.own || o'.isDead)
        · exact ⟨z, hz⟩
        · exact ⟨z, List.mem_cons.2 (.inr hz)⟩
      · exact ⟨z, hz⟩
theorem look_puts_cases (l : List (Nat × AObj)) : ∀ (h : Hp) (i : Nat) (o : AObj), look (puts h l) i = some o → (i, o) ∈ l ∨ ((∀ q ∈ l, q.1 ≠ i) ∧ look h i = some o) := by
  induction l with
  | nil => exact fun h i o ho => .inr ⟨(fun q hq => by cases hq), ho⟩
  | cons q l ih =>
    obtain ⟨k, x⟩ := q
    intro h i o ho
    rcases ih _ _ _ ho with h' | ⟨h1, h'⟩
    · exact .inl (by simp [h'])
    · rw [look_put] at h'
      split at h'
      · rename_i e; subst e; cases h'; exact .inl (by simp)
      · rename_i e
        refine .inr ⟨fun q hq => ?_, h'⟩
        rcases List.mem_cons.1 hq with hq | hq
        · subst hq; exact e
        · exact h1 q hq
inductive View (m : Nat → Nat) : AObj → AObj → Prop where
  | own (ty : TypeId) (c : List SV) : View m (.cells ty (renL m c)) (.cells ty c)
  | row (ty : TypeId) (s : List Sc) (l : List (TT s)) : View m (.row ty s l) (.row ty s l)
  | mapo (ks vs : List Sc) (l : List (TT ks × TT vs)) : View m (.mapo ks vs l) (.mapo ks vs l)
  | raw (o : Obj) : View m (.raw o) (.raw o)
  | reads {o oc : AObj} (h : Reads m o oc) : View m o oc
theorem View.ok {m : Nat → Nat} {ρ : Rho} {w : World} {L : Loc} {o oc : AObj} (h : View m o oc) (hk : OK ρ w L o) : OK (fun i => ρ (m i)) w L oc := by
  cases h with
  | own ty c => exact ⟨hk.1, hk.2.1, by rw [← denL_ren]; exact hk.2.2⟩
  | row ty s l => exact hk
  | mapo ks vs l => exact hk
  | raw o => exact hk
  | reads h => exact h.ok hk
theorem View.of_own {m : Nat → Nat} {o oc : AObj} (h : View m o oc) (hw : oc.own = true) : o.own = true := by
  cases h with
  | own ty c => rfl
  | row ty s l => rfl
  | mapo ks vs l => rfl
  | raw o => rfl
  | reads h =>
    have := h.shared
    cases oc <;> first | (cases hw; done) | (cases this; done)
theorem View.live {m : Nat → Nat} {o oc : AObj} (h : View m o oc) : o.own = true ∨ o.shared = true := by
  cases h with
  | own ty c => exact .inl rfl
  | row ty s l => exact .inl rfl
  | mapo ks vs l => exact .inl rfl
  | raw o => exact .inl rfl
  | reads h =>
    cases oc with
    | ro ty c =>
      rcases h with h | h <;> subst h
      · exact .inl rfl
      · exact .inr rfl
    | arg s l =>
      rcases h with ⟨_, h⟩ | h <;> subst h
      · exact .inl rfl
      · exact .inr rfl
    | _ => cases h
section
variable {P : Program} {C : FuncId → Option Con} {cn : Nat → St → Option St} {F : Nat}
theorem con_ownW {G : St → Option St} {B : Nat → Prop} {f : FuncId} {fn : Func} {c0 : Code} (hf : P.funcs[f]? = some fn) (hname : (fn.name == "runtime.NumGoroutine") = false) (hbody : fn.body = some c0)
    {p : Nat} (args : List SV) (m : Nat → Nat) (hc : Hp) (r : SV) (hp' : Hp) (hG : GOk G p) (ρ : Rho) (h : Hp) (w : World)
    (hcall : ∀ (B2 : Nat → Prop) (ρc : Rho), HR B2 ρc hc w → (∀ b, w.heap.size ≤ b → B2 b) → Calls P f (denL ρc args).toArray w fun e w' => ∃ ρ' s h', e = .returned (den ρ' s) ∧ KG G p s h' = some (r, hp') ∧ HR B2 ρ' h' w' ∧ Keeps B2 w w' ∧ (∀ i, i < p → ρ' i = ρc i))
    (lo : Nat) (hr : HR B ρ h w) (hfree : HFree lo (lo + wide) h) (up : ∀ b, w.heap.size ≤ b → B b)
    (hwf : ∀ i oc, look hc i = some oc → i < p ∧ oc.lt p = true) (hmf : ∀ i, i < p → m i < lo ∨ lo + wide ≤ m i)
    (hviews : ∀ i oc, look hc i = some oc → ∃ o, look h (m i) = some o ∧ View m o oc)
    (hinj : ∀ i j oc oc', look hc i = some oc → look hc j = some oc' → i ≠ j → oc.own = true → m i ≠ m j)
    (hown : ∀ i oc, look hc i = some oc → oc.own = true → ∃ o', look hp' i = some o' ∧ (o'.own = true ∨ o' = .dead)) :
    CallGives P f (denL ρ (renL m args)).toArray w fun v w' => ∃ ρ', Made B ρ h w lo (lo + wide) ⟨ren (mr m p lo) r, updGo (mr m p lo) hp' hp'⟩ ρ' v w' := by
  refine .inl ⟨Go.run_callFunc_enter' hf hname hbody _ _, ?_⟩
  rw [denL_ren]
  obtain ⟨B2, hB2⟩ : ∃ B2 : Nat → Prop, B2 = fun b => w.heap.size ≤ b ∨ ∃ i oc, look hc i = some oc ∧ oc.own = true ∧ (ρ (m i)).nil = false ∧ (ρ (m i)).blk = b := ⟨_, rfl⟩
  have hBB : ∀ b, B2 b → B b := by
    intro b hb
    rw [hB2] at hb
    rcases hb with hb | ⟨i, oc, h1, h2, h3, h4⟩
    · exact up b hb
    · obtain ⟨o, k1, k2⟩ := hviews i oc h1
      rw [← h4]
      exact hr.inB _ o k1 (k2.of_own h2) h3
  -- a caller's thing that is not among those that the callee owns: its block is out of reach
  have out : ∀ j x, look h j = some x → x ≠ .dead → (ρ j).nil = false → (∀ i oc, look hc i = some oc → oc.own = true → m i ≠ j) → ¬ B2 (ρ j).blk := by
    intro j x hx hd hn hne hb
    rw [hB2] at hb
    rcases hb with hb | ⟨i, oc, h1, h2, h3, h4⟩
    · have := (hr.ok j x hx).lt hd hn
      omega
    · obtain ⟨o, k1, k2⟩ := hviews i oc h1
      have ho := k2.of_own h2
      by_cases hxo : x.own = true
      · exact hr.inj (m i) j o x k1 hx ho hxo h3 hn (hne i oc h1 h2) h4
      · have hxs : x.shared = true := by cases x <;> first | rfl | (exact absurd rfl hd) | (exact absurd rfl hxo)
        exact hr.arg j x hx hxs hn (h4 ▸ hr.inB (m i) o k1 ho h3)
  have hrc : HR B2 (fun i => ρ (m i)) hc w := by
    refine ⟨fun i oc ho => ?_, fun i oc ho hw hn => ?_, fun i oc ho hs hn => ?_, fun i j oc oc' ho ho' hw hw' hn hn' hij => ?_⟩
    · obtain ⟨o, k1, k2⟩ := hviews i oc ho
      exact k2.ok (hr.ok _ _ k1)
    · rw [hB2]; exact .inr ⟨i, oc, ho, hw, hn, rfl⟩
    · obtain ⟨o, k1, k2⟩ := hviews i oc ho
      refine out (m i) o k1 (fun e => ?_) hn (fun i' oc' h1 h2 => ?_)
      · rcases k2.live with k | k <;> (subst e; cases k)
      · exact hinj i' i oc' oc h1 ho (fun e => by subst e; rw [h1] at ho; cases ho; cases oc <;> first | (cases h2; done) | (cases hs; done)) h2
    · obtain ⟨o, k1, k2⟩ := hviews i oc ho
      obtain ⟨o', k1', k2'⟩ := hviews j oc' ho'
      exact hr.inj (m i) (m j) o o' k1 k1' (k2.of_own hw) (k2'.of_own hw') hn hn' (hinj i j oc oc' ho ho' hij hw)
  have hsub : ∀ b, w.heap.size ≤ b → B2 b := fun b hb => by rw [hB2]; exact .inl hb
  refine (hcall B2 (fun i => ρ (m i)) hrc hsub).mono ?_
  rintro e w' ⟨ρ1, s, h1, rfl, hk, hrf, hks, hpn⟩
  refine ⟨_, rfl, ?_⟩
  unfold KG at hk
  cases hg : G ⟨[(0, s)], h1, 0⟩ with
  | none => rw [hg] at hk; cases hk
  | some σ =>
    rw [hg] at hk
    simp only at hk
    cases hl : look σ.sl 0 with
    | none => rw [hl] at hk; cases hk
    | some s' =>
      rw [hl] at hk
      simp only [forceV_eq, forceHp_eq] at hk
      cases hb : Nat.ble σ.nx (p + wide) with
      | false => rw [hb] at hk; cases hk
      | true =>
        rw [hb] at hk
        cases hk
        have hN := Nat.le_of_ble_eq_true hb
        have hR : R B2 ⟨w, fun i => ρ (m i), p⟩ 1 ⟨[(0, s)], h1, 0⟩ ρ1 { tmps := #[den ρ1 s], defers := [] } w' := by
          refine ⟨rfl, rfl, fun t s0 hs => ?_, hrf, hsub, hks, hpn⟩
          simp only [look] at hs
          by_cases e : 0 = t
          · subst e; cases hs; exact ⟨by omega, rfl⟩
          · rw [beq_no e] at hs; cases hs
        obtain ⟨hwf', hgo⟩ := hG B2 ⟨w, fun i => ρ (m i), p⟩ 1 _ _ (Nat.le_refl p) hg
        obtain ⟨ρ2, hR2⟩ := hgo _ _ _ hR
        have hv : den ρ1 s = den ρ2 r := (hR2.sl 0 r hl).2
        have hpn2 : ∀ i, i < p → ρ2 i = ρ (m i) := hR2.pn
        obtain ⟨ρo, hρo⟩ : ∃ ρo : Rho, ρo = fun j => if lo ≤ j ∧ j < lo + wide then ρ2 (p + (j - lo)) else ρ j := ⟨_, rfl⟩
        have hout : ∀ j, j < lo ∨ lo + wide ≤ j → ρo j = ρ j := fun j hj => by rw [hρo]; exact if_neg (by omega)
        have key : ∀ i, i < σ.nx → ρo (mr m p lo i) = ρ2 i := by
          intro i hi
          unfold mr
          by_cases hip : i < p
          · rw [lt_blt hip]
            simp only [cond_true]
            rw [hout _ (hmf i hip), hpn2 i hip]
          · rw [show Nat.blt i p = false from by cases hx : Nat.blt i p with | false => rfl | true => exact absurd (blt_lt hx) hip]
            simp only [cond_false]
            rw [hρo]
            show (if lo ≤ lo + (i - p) ∧ lo + (i - p) < lo + wide then ρ2 (p + (lo + (i - p) - lo)) else _) = _
            rw [if_pos (by omega)]
            congr 1
            omega
        have denK : ∀ s0 : SV, s0.lt σ.nx = true → den ρo (ren (mr m p lo) s0) = den ρ2 s0 := fun s0 h0 => by
          rw [den_ren]; exact den_ids (fun i hi => key i (blt_lt hi)) s0 (lt_ids s0 h0)
        have denKL : ∀ l0 : List SV, ltL σ.nx l0 = true → denL ρo (renL (mr m p lo) l0) = denL ρ2 l0 := fun l0 h0 => by
          rw [denL_ren]; exact denL_ids (fun i hi => key i (blt_lt hi)) l0 (lt_idsL l0 h0)
        have own' : ∀ o : AObj, (renO (mr m p lo) o).own = o.own := fun o => by cases o <;> rfl
        have hasU : ∀ i oc, look hc i = some oc → oc.own = true → ∃ x, (m i, x) ∈ updGo (mr m p lo) σ.hp σ.hp := by
          intro i oc h2 h3
          obtain ⟨o', k1, k2⟩ := hown i oc h2 h3
          obtain ⟨x, hx⟩ := updGo_has (r := mr m p lo) k1 k2 (look_key k1)
          have : mr m p lo i = m i := by unfold mr; rw [lt_blt (hwf i oc h2).1]; rfl
          rw [this] at hx
          exact ⟨x, hx⟩
        have old : ∀ j x, look h j = some x → (∀ q ∈ updGo (mr m p lo) σ.hp σ.hp, q.1 ≠ j) → x ≠ .dead → (ρ j).nil = false → ¬ B2 (ρ j).blk := by
          intro j x hx hq hd hn
          refine out j x hx hd hn (fun i oc h2 h3 e => ?_)
          obtain ⟨y, hy⟩ := hasU i oc h2 h3
          exact hq _ hy e
        refine ⟨ρo, ⟨by rw [hv]; exact (denK r (hwf'.sl 0 r hl)).symm, fun i hi => hout i hi, ⟨?_, ?_, ?_, ?_⟩, ⟨hks.os, hks.tape, hks.output, hks.size, fun k hk => hks.block k (fun hb => hk (hBB k hb))⟩⟩⟩
        · intro j x hx
          rcases look_puts_cases _ _ _ _ hx with hx | ⟨hq, hx⟩
          · obtain ⟨i, o, g1, g2, rfl, rfl⟩ := updGo_mem hx
            have hlt := hwf'.hp i o g1
            rw [key i hlt.1]
            have hk := hR2.hr.ok i o g1
            rcases g2 with g2 | g2
            · cases o with
              | cells ty c => exact ⟨hk.1, hk.2.1, by rw [denKL c hlt.2]; exact hk.2.2⟩
              | row ty s l => exact hk
              | mapo ks vs l => exact hk
              | raw o => exact hk
              | _ => cases g2
            · subst g2; trivial
          · by_cases hd : x = .dead
            · subst hd; trivial
            · have hj := hfree j x hx
              rw [hout j hj.1]
              exact (hr.ok j x hx).keep (fun ty' c' e => denL_free (lo := lo) (hi := lo + wide) hout c' (free_cells hj.2 ty' c' e)) (fun hn => hks.block _ (old j x hx hq hd hn)) hks.size
        · intro j x hx hw hn
          rcases look_puts_cases _ _ _ _ hx with hx | ⟨hq, hx⟩
          · obtain ⟨i, o, g1, g2, rfl, rfl⟩ := updGo_mem hx
            rw [key i (hwf'.hp i o g1).1] at hn ⊢
            exact hBB _ (hR2.hr.inB i o g1 (by rw [own'] at hw; exact hw) hn)
          · rw [hout j (hfree j x hx).1] at hn ⊢
            exact hr.inB j x hx hw hn
        · intro j x hx hs hn
          rcases look_puts_cases _ _ _ _ hx with hx | ⟨hq, hx⟩
          · obtain ⟨i, o, g1, g2, rfl, rfl⟩ := updGo_mem hx
            rcases g2 with g2 | g2
            · cases o <;> first | (cases g2; done) | (cases hs; done)
            · subst g2; cases hs
          · rw [hout j (hfree j x hx).1] at hn ⊢
            exact hr.arg j x hx hs hn
        · intro i j x y hx hy hwx hwy hn hn' hij
          rcases look_puts_cases _ _ _ _ hx with hx | ⟨hq, hx⟩
          · obtain ⟨a, o, g1, g2, rfl, rfl⟩ := updGo_mem hx
            rw [key a (hwf'.hp a o g1).1] at hn ⊢
            rcases look_puts_cases _ _ _ _ hy with hy | ⟨hq', hy⟩
            · obtain ⟨b, o', g1', g2', rfl, rfl⟩ := updGo_mem hy
              rw [key b (hwf'.hp b o' g1').1] at hn' ⊢
              exact hR2.hr.inj a b o o' g1 g1' (by rw [own'] at hwx; exact hwx) (by rw [own'] at hwy; exact hwy) hn hn' (fun e => hij (by rw [e]))
            · rw [hout j (hfree j y hy).1] at hn' ⊢
              intro e
              refine old j y hy hq' (fun e' => by subst e'; cases hwy) hn' ?_
              rw [← e]
              exact hR2.hr.inB a o g1 (by rw [own'] at hwx; exact hwx) hn
          · rw [hout i (hfree i x hx).1] at hn ⊢
            rcases look_puts_cases _ _ _ _ hy with hy | ⟨hq', hy⟩
            · obtain ⟨b, o', g1', g2', rfl, rfl⟩ := updGo_mem hy
              rw [key b (hwf'.hp b o' g1').1] at hn' ⊢
              intro e
              refine old i x hx hq (fun e' => by subst e'; cases hwx) hn ?_
              rw [e]
              exact hR2.hr.inB b o' g1' (by rw [own'] at hwy; exact hwy) hn'
            · rw [hout j (hfree j y hy).1] at hn' ⊢
              exact hr.inj i j x y hx hy hwx hwy hn hn' hij
theorem con_ownG {G : St → Option St} {B : Nat → Prop} {f : FuncId} {fn : Func} {c0 : Code} (hm : P.follows .mixedOrders = true) (hf : P.funcs[f]? = some fn) (hname : (fn.name == "runtime.NumGoroutine") = false) (hbody : fn.body = some c0)
    (hC : ∀ B' g φ, C g = some φ → ConOk P B' g φ) {p : Nat} (hcn : ∀ B' (w0 : Base), w0.pin ≤ p → CnOk cn B' w0 fn.ntmps) (args : List SV) (m : Nat → Nat) (hc : Hp) (r : SV) (hp' : Hp)
    (hG : GOk G p) (hev : evFn P C cn F fn args hc p (KG G p) = some (r, hp'))
    (ρ : Rho) (h : Hp) (w : World) (lo : Nat) (hr : HR B ρ h w) (hfree : HFree lo (lo + wide) h) (up : ∀ b, w.heap.size ≤ b → B b)
    (hargs : ltL p args = true) (hwf : ∀ i oc, look hc i = some oc → i < p ∧ oc.lt p = true) (hmf : ∀ i, i < p → m i < lo ∨ lo + wide ≤ m i)
    (hviews : ∀ i oc, look hc i = some oc → ∃ o, look h (m i) = some o ∧ View m o oc)
    (hinj : ∀ i j oc oc', look hc i = some oc → look hc j = some oc' → i ≠ j → oc.own = true → m i ≠ m j)
    (hown : ∀ i oc, look hc i = some oc → oc.own = true → ∃ o', look hp' i = some o' ∧ (o'.own = true ∨ o' = .dead)) :
    CallGives P f (denL ρ (renL m args)).toArray w fun v w' => ∃ ρ', Made B ρ h w lo (lo + wide) ⟨ren (mr m p lo) r, updGo (mr m p lo) hp' hp'⟩ ρ' v w' :=
  con_ownW hf hname hbody args m hc r hp' hG ρ h w (fun B2 ρc hrc hsub => evFn_sound hm hf (hC _) hev _ w ⟨w, ρc, p⟩ rfl (fun _ _ => rfl) (Nat.le_refl _) (hcn _ _ (Nat.le_refl _)) hrc hwf hargs hsub) lo hr hfree up hwf hmf hviews hinj hown
end
end Go.Proofs.Ytbmapmigiokbcaa.Ax
namespace Go.Proofs.Ytbmapmigiokbcaa.Ax
open Go Go.RowKit
set_option linter.unusedVariables false
set_option linter.unusedSimpArgs false
section
variable {E : Oper → (Operand → Option SV) → Nat → Rd Out} {n : Nat}
variable {cn : Nat → St → Option St} {F : Nat}
end
section
variable {P : Program} {C : FuncId → Option Con} {cn : Nat → St → Option St} {F : Nat}
mutual
theorem ren_back {m fm : Nat → Nat} {q : Nat → Bool} (hq : ∀ i, q i = true → m (fm i) = i) : ∀ s : SV, s.ids q = true → ren m (ren fm s) = s
  | .v _, _ => rfl
  | .ptr id _, h => by simp only [ren]; rw [hq id h]
  | .elt id _ _ _, h => by simp only [ren]; rw [hq id h]
  | .slc id _ _ _ _, h => by simp only [ren]; rw [hq id h]
  | .all id, h => by simp only [ren]; rw [hq id h]
  | .map id, h => by simp only [ren]; rw [hq id h]
  | .fn _ fi ca, h => by
    simp only [SV.ids, Bool.and_eq_true] at h
    simp only [ren]; rw [renL_back hq fi h.1, renL_back hq ca h.2]
  | .agg l, h => by simp only [ren]; rw [renL_back hq l h]
  | .tup l, h => by simp only [ren]; rw [renL_back hq l h]
theorem renL_back {m fm : Nat → Nat} {q : Nat → Bool} (hq : ∀ i, q i = true → m (fm i) = i) : ∀ l : List SV, idsL q l = true → renL m (renL fm l) = l
  | [], _ => rfl
  | s :: l, h => by
    simp only [idsL, Bool.and_eq_true] at h
    simp only [renL]; rw [ren_back hq s h.1, renL_back hq l h.2]
end
end
end Go.Proofs.Ytbmapmigiokbcaa.Ax
