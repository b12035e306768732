/- AX 11: calls; the operations all together; what code makes of a function. -/
import Derived.Test.YtcheokphnhjomaaAx10
namespace Go.Proofs.Ytcheokphnhjomaa.Ax
open Go Go.RowKit
set_option linter.unusedVariables false
set_option linter.unusedSimpArgs false

section
variable {P : Program} {C : FuncId → Option Con} {B : Nat → Prop} {ρ : Rho} {h : Hp} {a : Act} {w : World} {ev : Operand → Option SV} {lo : Nat} {o : Oper} {out : Out} {ids : List Nat}

theorem freeL_append {lo hi : Nat} {l m : List SV} (h1 : freeL lo hi l = true) (h2 : freeL lo hi m = true) : freeL lo hi (l ++ m) = true := by
  rw [freeL_mem] at *
  intro s hs
  rcases List.mem_append.1 hs with hs | hs
  · exact h1 s hs
  · exact h2 s hs

theorem call_sound {cl : Call} (hC : ∀ g φ, C g = some φ → ConOk P B g φ) (ho : o.op = .call cl) (c : Cx B ρ h a w ev lo) (hr : (eff P C o ev lo).run h = some (out, ids)) : Goal P B ρ h a w lo o out := by
  unfold eff at hr
  rw [ho] at hr
  simp only at hr
  unfold callS at hr
  cases hl : evL ev cl.args.toList with
  | none => rw [hl] at hr; cases hr
  | some args =>
    rw [hl] at hr
    simp only at hr
    obtain ⟨hd, hfl⟩ := evL_den c hl
    have hargs : cl.args.map a.eval = (denL ρ args).toArray := by apply Array.ext'; simpa using hd
    cases hc : cl.callee with
    | value f =>
      rw [hc] at hr
      simp only at hr
      split at hr
      · rename_i g fi ca hf
        cases hg : C g with
        | none => rw [hg] at hr; cases hr
        | some φ =>
          rw [hg] at hr
          simp only at hr
          obtain ⟨he, hff⟩ := c.ev _ _ hf
          simp only [SV.free, Bool.and_eq_true] at hff
          have hfree := freeL_append (freeL_append hff.1 hfl) hff.2
          have happ : (denL ρ fi).toArray ++ (denL ρ args).toArray ++ (denL ρ ca).toArray = (denL ρ (fi ++ args ++ ca)).toArray := by
            apply Array.ext'
            simp [denL_map]
          have hexec : execOp a.eval o = callFunc g (denL ρ (fi ++ args ++ ca)).toArray := by
            unfold execOp
            rw [ho]
            show (resolve a.eval cl o.type).bind _ = _
            unfold resolve
            rw [hc]
            simp only [he, den, Deferred.ofValue, hargs]
            show invoke (.fn (.func g) (denL ρ ca).toArray) ((denL ρ fi).toArray ++ (denL ρ args).toArray) = _
            show callFunc g ((denL ρ fi).toArray ++ (denL ρ args).toArray ++ (denL ρ ca).toArray) = _
            rw [happ]
          rcases hC g φ hg _ ρ h w lo out ids hr c.hr c.hf hfree c.up with ⟨h1, h2⟩ | ⟨v, w', h1, h2⟩
          · exact Gives.enter (by rw [hexec]; exact h1) h2
          · exact Gives.value (by rw [hexec]; exact h1) h2
      · cases hr
    | invoke x m => rw [hc] at hr; cases hr
    | builtin b =>
      rw [hc] at hr
      simp only at hr
      cases b <;> try (cases hr; done)
      case len =>
        simp only at hr
        split at hr
        · rename_i t ht
          split at hr
          · rename_i x
            have ha1 : cl.argTypes = #[t] := by apply Array.ext'; exact ht
            cases hx : cl.args.toList with
            | nil => rw [hx] at hl; cases hl
            | cons y ys =>
              rw [hx] at hl
              simp only [evL] at hl
              cases hy : ev y with
              | none => rw [hy] at hl; cases hl
              | some s =>
                rw [hy] at hl
                cases hys : evL ev ys with
                | none => rw [hys] at hl; cases hl
                | some r =>
                  rw [hys] at hl
                  simp only [Option.some.injEq, List.cons.injEq] at hl
                  obtain ⟨rfl, rfl⟩ := hl
                  cases ys with
                  | nil => exact len_sound ho hc ha1 (by apply Array.ext'; exact hx) hy c hr
                  | cons z zs =>
                    simp only [evL] at hys
                    split at hys
                    · cases hys
                    · split at hys <;> cases hys
          · cases hr
        · cases hr
      case max =>
        simp only at hr
        split at hr
        · have := ret_run (h := h) hr; subst this
          refine goal_pure c ?_
          unfold execOp
          simp only [ho, resolve, hc, hargs, Sem.run_bind, Sem.run_pure, Result.andThen_ok, invoke, builtin, Builtin.max_, denL, den, List.foldlM, Builtin.max2, mx]
        · cases hr
      case min =>
        simp only at hr
        split at hr
        · have := ret_run (h := h) hr; subst this
          refine goal_pure c ?_
          unfold execOp
          simp only [ho, resolve, hc, hargs, Sem.run_bind, Sem.run_pure, Result.andThen_ok, invoke, builtin, Builtin.min_, denL, den, List.foldlM, Builtin.min2, mn]
        · cases hr

theorem eff_cx (hC : ∀ g φ, C g = some φ → ConOk P B g φ) (c : Cx B ρ h a w ev lo) (hr : (eff P C o ev lo).run h = some (out, ids)) : Goal P B ρ h a w lo o out := by
  cases ho : o.op with
  | move x => exact move_sound (.inl ho) c (by unfold eff at hr; rw [ho] at hr; exact hr)
  | assign x => exact move_sound (.inr ho) c (by unfold eff at hr; rw [ho] at hr; exact hr)
  | pick => exact pick_sound ho c hr
  | box => exact box_sound ho c hr
  | alloc => exact alloc_sound ho c hr
  | build => exact build_sound ho c hr
  | buildSlice => exact buildSlice_sound ho c hr
  | load => exact load_sound ho c hr
  | store => exact store_sound ho c hr
  | nilCheck => exact nil_sound ho c hr
  | binOp => exact bin_sound ho c hr
  | unOp => exact un_sound ho c hr
  | convert => exact conv_sound ho c hr
  | makeFunc => exact func_sound ho c hr
  | fieldAddr => exact fieldAddr_sound ho c hr
  | field => exact field_sound ho c hr
  | indexAddr => exact indexAddr_sound ho c hr
  | index => exact index_sound ho c hr
  | extract => exact extract_sound ho c hr
  | call => exact call_sound hC ho c hr
  | _ => (unfold eff at hr; rw [ho] at hr; cases hr)

/-! What an operation is worth hangs on its operands alone. -/
theorem evL_congr {ev ev' : Operand → Option SV} : ∀ {l : List Operand}, (∀ x ∈ l, ev x = ev' x) → evL ev l = evL ev' l
  | [], _ => rfl
  | x :: l, h => by simp only [evL, h x (by simp), evL_congr (l := l) (fun y hy => h y (by simp [hy]))]
theorem evParts_congr {ev ev' : Operand → Option SV} : ∀ {l : List (Nat × Operand)}, (∀ p ∈ l, ev p.2 = ev' p.2) → evParts ev l = evParts ev' l
  | [], _ => rfl
  | (i, x) :: l, h => by
    have h1 := h (i, x) (by simp)
    simp only at h1
    simp only [evParts, h1, evParts_congr (l := l) (fun y hy => h y (by simp [hy]))]

theorem eff_loc (P : Program) (C : FuncId → Option Con) (o : Oper) (ev ev' : Operand → Option SV) (fr : Nat) (h : ∀ x ∈ o.op.operands, ev x = ev' x) : eff P C o ev fr = eff P C o ev' fr := by
  unfold eff
  cases ho : o.op with
  | call c =>
    rw [ho] at h
    simp only [Op.operands, Call.operands] at h
    have ha : evL ev c.args.toList = evL ev' c.args.toList := evL_congr fun x hx => h x (Array.mem_append.2 (.inr (by simpa using hx)))
    simp only [callS, ha]
    cases hc : c.callee with
    | value f =>
      rw [hc] at h
      have hf : ev f = ev' f := h f (by simp)
      simp only [hf]
    | _ => rfl
  | build t ps =>
    rw [ho] at h
    simp only [Op.operands] at h
    simp only [evParts_congr (ev := ev) (ev' := ev') (l := ps.toList) (fun p hp => h p.2 (by simpa using ⟨p.1, by simpa using hp⟩))]
  | buildSlice t n ps =>
    rw [ho] at h
    simp only [Op.operands] at h
    simp only [evParts_congr (ev := ev) (ev' := ev') (l := ps.toList) (fun p hp => h p.2 (by simpa using ⟨p.1, by simpa using hp⟩))]
  | makeFunc fn fi ca =>
    rw [ho] at h
    simp only [Op.operands] at h
    simp only [evL_congr (ev := ev) (ev' := ev') (l := fi.toList) (fun x hx => h x (by simp at hx; simp [hx])), evL_congr (ev := ev) (ev' := ev') (l := ca.toList) (fun x hx => h x (by simp at hx; simp [hx]))]
  | move x => rw [ho] at h; simp only [h x (by simp [Op.operands])]
  | assign x => rw [ho] at h; simp only [h x (by simp [Op.operands])]
  | pick x y z => rw [ho] at h; simp only [h x (by simp [Op.operands]), h y (by simp [Op.operands]), h z (by simp [Op.operands])]
  | box t x => rw [ho] at h; simp only [h x (by simp [Op.operands])]
  | load t x => rw [ho] at h; simp only [h x (by simp [Op.operands])]
  | store t x y => rw [ho] at h; simp only [h x (by simp [Op.operands]), h y (by simp [Op.operands])]
  | nilCheck x => rw [ho] at h; simp only [h x (by simp [Op.operands])]
  | binOp op t x y t' => rw [ho] at h; simp only [h x (by simp [Op.operands]), h y (by simp [Op.operands])]
  | unOp op t x => rw [ho] at h; simp only [h x (by simp [Op.operands])]
  | convert s d x => rw [ho] at h; simp only [h x (by simp [Op.operands])]
  | fieldAddr s x f => rw [ho] at h; simp only [h x (by simp [Op.operands])]
  | field s x f => rw [ho] at h; simp only [h x (by simp [Op.operands])]
  | indexAddr t x y => rw [ho] at h; simp only [h x (by simp [Op.operands]), h y (by simp [Op.operands])]
  | index t x y => rw [ho] at h; simp only [h x (by simp [Op.operands]), h y (by simp [Op.operands])]
  | extract x i => rw [ho] at h; simp only [h x (by simp [Op.operands])]
  | _ => rfl

theorem evo_free {lo hi : Nat} {σ : St} (hf : Fresh lo hi σ) (x : Operand) (s : SV) (hx : evo σ x = some s) : s.free lo hi = true := by
  cases x with
  | tmp t => exact hf.sl t s hx
  | const v =>
    cases hx
    cases v <;> first | rfl | exact freeL_map_v _ _ _
  | global g => cases hx
  | func f => cases hx; rfl

/-- The operations are sound. -/
theorem eff_sound {w0 : World} {n : Nat} (hC : ∀ g φ, C g = some φ → ConOk P B g φ) : Sound (eff P C) P B w0 n :=
  ⟨eff_loc P C, fun o σ ρ a w lo out ids hr hR hf => eff_cx hC ⟨fun x s hx => ⟨hR.eval x s hx, evo_free hf x s hx⟩, hR.hr, hf.hp, fun b hb => hR.up b (Nat.le_trans hR.ks.size hb)⟩ hr⟩

end
end Go.Proofs.Ytcheokphnhjomaa.Ax
