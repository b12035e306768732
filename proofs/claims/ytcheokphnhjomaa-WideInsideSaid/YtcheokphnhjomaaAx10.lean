/- AX 10: the other operations are sound; all together. -/
import Derived.Test.YtcheokphnhjomaaAx9
namespace Go.Proofs.Ytcheokphnhjomaa.Ax
open Go Go.RowKit
set_option linter.unusedVariables false
set_option linter.unusedSimpArgs false

section
variable {P : Program} {C : FuncId → Option Con} {B : Nat → Prop} {ρ : Rho} {h : Hp} {a : Act} {w : World} {ev : Operand → Option SV} {lo : Nat} {o : Oper} {out : Out} {ids : List Nat}

theorem loadS_pure {t : TypeId} {cs : List SV} {off : Nat} {s : SV} (hr : (loadS P t cs off).run h = some (out, ids)) : ∃ v, out = ⟨v, []⟩ := by
  obtain ⟨_, _, v, _, _, _, e⟩ := loadS_den hr
  exact ⟨v, e⟩

theorem move_sound {x : Operand} (ho : o.op = .move x ∨ o.op = .assign x) (c : Cx B ρ h a w ev lo) (hr : (w1 (ev x) fun s => (Rd.ret ⟨s, []⟩ : Rd Out)).run h = some (out, ids)) : Goal P B ρ h a w lo o out := by
  obtain ⟨s, hs, hr⟩ := w1_run hr
  have := ret_run (h := h) hr
  subst this
  refine goal_pure c ?_
  rw [← (c.ev x s hs).1]
  unfold execOp
  rcases ho with ho | ho <;> rw [ho] <;> rfl

theorem pick_sound {x y z : Operand} (ho : o.op = .pick x y z) (c : Cx B ρ h a w ev lo) (hr : (eff P C o ev lo).run h = some (out, ids)) : Goal P B ρ h a w lo o out := by
  unfold eff at hr
  rw [ho] at hr
  obtain ⟨s, hs, hr⟩ := w1_run hr
  obtain ⟨s1, hs1, hr⟩ := w1_run hr
  obtain ⟨s2, hs2, hr⟩ := w1_run hr
  have e0 := (c.ev _ _ hs).1
  have e1 := (c.ev _ _ hs1).1
  have e2 := (c.ev _ _ hs2).1
  cases s with
  | v x' =>
    cases x' with
    | bool t =>
      cases t with
      | true =>
        have := ret_run (h := h) hr
        subst this
        refine goal_pure c ?_
        unfold execOp
        simp only [ho, e0, den, asBool, Sem.run_bind, Sem.run_pure, Result.andThen_ok, if_true, e1]
      | false =>
        have := ret_run (h := h) hr
        subst this
        refine goal_pure c ?_
        unfold execOp
        simp only [ho, e0, den, asBool, Sem.run_bind, Sem.run_pure, Result.andThen_ok, Bool.false_eq_true, if_false, e2]
    | _ => cases hr
  | _ => cases hr

theorem cells_toArray (ρ : Rho) (s : SV) : (den ρ s).cells = (denL ρ (cellsS s)).toArray := by
  apply Array.ext'
  rw [cellsS_den]

theorem new_value (c : Cx B ρ h a w ev lo) {s : SV} {ty : TypeId} {cs : List SV} {n cap : Nat} (hc : freeL lo (lo + wide) cs = true)
    (hrun : (execOp a.eval o).run P w = .ok (.value (den (setRho ρ lo ⟨w.heap.size, 0, n, cap, false⟩) s)) (w.alloc (.cells (denL ρ cs).toArray ty))) :
    Goal P B ρ h a w lo o ⟨s, [(lo, .cells ty cs)]⟩ :=
  Gives.value hrun ⟨_, made_cells c.hr c.hf (by unfold wide; omega) c.up hc n cap⟩

theorem box_sound {t : TypeId} {x : Operand} (ho : o.op = .box t x) (c : Cx B ρ h a w ev lo) (hr : (eff P C o ev lo).run h = some (out, ids)) : Goal P B ρ h a w lo o out := by
  unfold eff at hr
  rw [ho] at hr
  obtain ⟨s, hs, hr⟩ := w1_run hr
  have := ret_run (h := h) hr
  subst this
  obtain ⟨e, hf⟩ := c.ev _ _ hs
  refine new_value (n := 0) (cap := 0) c (cellsS_free hf) ?_
  unfold execOp
  simp only [ho, e, Instr.box, newVar, newRow, cells_toArray, Sem.run_bind, run_newObj_alloc, Result.andThen_ok, Sem.run_pure, den, setRho_same, Nat.add_zero]

theorem alloc_sound {t : TypeId} (ho : o.op = .alloc t) (c : Cx B ρ h a w ev lo) (hr : (eff P C o ev lo).run h = some (out, ids)) : Goal P B ρ h a w lo o out := by
  unfold eff at hr
  rw [ho] at hr
  simp only at hr
  cases hz : zeroT P t with
  | none => rw [hz] at hr; cases hr
  | some z =>
    rw [hz] at hr
    have := ret_run (h := h) hr
    subst this
    unfold zeroT at hz
    cases hi : P.info? t with
    | none => rw [hi] at hz; cases hz
    | some i =>
      rw [hi] at hz
      simp only at hz
      cases hzz : i.zero with
      | none => rw [hzz] at hz; cases hz
      | some v =>
        rw [hzz] at hz
        cases hz
        refine new_value (n := 0) (cap := 0) c (freeL_map_v _ _ _) ?_
        unfold execOp
        rw [map_v]
        simp only [ho, Instr.alloc, zeroValue, typeInfo, hi, hzz, newVar, newRow, Sem.run_bind, run_program, run_newObj_alloc, Result.andThen_ok, Sem.run_pure, den, setRho_same, Nat.add_zero]

theorem build_sound {t : TypeId} {parts : Array (Nat × Operand)} (ho : o.op = .build t parts) (c : Cx B ρ h a w ev lo) (hr : (eff P C o ev lo).run h = some (out, ids)) : Goal P B ρ h a w lo o out := by
  unfold eff at hr
  rw [ho] at hr
  simp only at hr
  cases hp : evParts ev parts.toList with
  | none => rw [hp] at hr; cases hr
  | some ps =>
    rw [hp] at hr
    simp only at hr
    cases hb : builtS P t ps with
    | none => rw [hb] at hr; cases hr
    | some cs =>
      rw [hb] at hr
      have := ret_run (h := h) hr
      subst this
      refine goal_pure c ?_
      have h1 := builtS_den ρ hb
      rw [← (evParts_den c hp).1, ← parts_map] at h1
      unfold execOp
      simp only [ho, Sem.run_bind, run_build w t _ _ h1, Result.andThen_ok, Sem.run_pure, den]

theorem buildSlice_sound {t : TypeId} {len : Nat} {parts : Array (Nat × Operand)} (ho : o.op = .buildSlice t len parts) (c : Cx B ρ h a w ev lo) (hr : (eff P C o ev lo).run h = some (out, ids)) : Goal P B ρ h a w lo o out := by
  unfold eff at hr
  rw [ho] at hr
  simp only at hr
  cases hp : evParts ev parts.toList with
  | none => rw [hp] at hr; cases hr
  | some ps =>
    rw [hp] at hr
    simp only at hr
    cases hu : P.underlying t with
    | none => rw [hu] at hr; cases hr
    | some d =>
      rw [hu] at hr
      cases d <;> try (cases hr; done)
      case slice e =>
        simp only at hr
        unfold szT zeroT at hr
        cases hi : P.info? e with
        | none => rw [hi] at hr; cases hr
        | some ie =>
          rw [hi] at hr
          simp only [Option.map_some] at hr
          cases hz : ie.zero with
          | none => rw [hz] at hr; cases hr
          | some z =>
            rw [hz] at hr
            simp only at hr
            obtain ⟨hb, hr⟩ := cond_run hr
            simp only [Bool.and_eq_true, Bool.not_eq_true'] at hb
            obtain ⟨b1, b2⟩ := hb
            have b1 := Nat.le_of_ble_eq_true b1
            have b2 : ¬ len * ie.size = 0 := fun e' => by rw [e'] at b2; cases b2
            cases hf : fillS (fun i => some (i * ie.size, ie.size)) ((zerosS z.cells.toList (len * ie.size)).map SV.v) ps with
            | none => rw [hf] at hr; cases hr
            | some cs =>
              rw [hf] at hr
              have := ret_run (h := h) hr
              subst this
              have h1 := fillS_den ρ _ _ _ _ hf
              rw [map_v, ← zerosS_eq, ← (evParts_den c hp).1, ← parts_map] at h1
              refine new_value (n := 0) (cap := 0) c (fillS_free hf (freeL_map_v _ _ _) (evParts_den c hp).2) ?_
              unfold execOp
              simp only [ho, Sem.run_bind, run_buildSlice w t e len _ _ ie z hu hi hz (by omega) b2 h1, Result.andThen_ok, Sem.run_pure, den, setRho_same, Bool.false_eq_true, if_false, Nat.zero_mul, Nat.add_zero]

theorem nil_sound {x : Operand} (ho : o.op = .nilCheck x) (c : Cx B ρ h a w ev lo) (hr : (eff P C o ev lo).run h = some (out, ids)) : Goal P B ρ h a w lo o out := by
  unfold eff at hr
  rw [ho] at hr
  obtain ⟨s, hs, hr⟩ := w1_run hr
  obtain ⟨e, hf⟩ := c.ev _ _ hs
  unfold nilS at hr
  split at hr
  · have := ret_run (h := h) hr; subst this
    refine goal_pure c ?_
    unfold execOp; simp only [ho, e, den, Sem.run_pure]
  · have := ret_run (h := h) hr; subst this
    refine goal_pure c ?_
    unfold execOp; simp only [ho, e, den, Sem.run_pure]
  · have := ret_run (h := h) hr; subst this
    refine goal_pure c ?_
    unfold execOp; simp only [ho, e, den, Sem.run_pure]
  · cases hr

theorem bind_run {α β : Type} {r : Rd α} {f : α → Rd β} : ∀ {b : β} {ids : List Nat}, (r.bind f).run h = some (b, ids) → ∃ x l l', r.run h = some (x, l) ∧ (f x).run h = some (b, l') := by
  induction r with
  | ret x => intro b ids hr; exact ⟨x, [], ids, rfl, hr⟩
  | fail => intro b ids hr; cases hr
  | obj id k ih =>
    intro b ids hr
    obtain ⟨o', l, h1, h2⟩ := obj_run hr
    obtain ⟨x, l1, l2, h3, h4⟩ := ih o' h2
    exact ⟨x, id :: l1, l2, by simp only [Rd.run, h1, h3, Option.map_some], h4⟩
  | br t x y ihx ihy =>
    intro b ids hr
    cases t with
    | true => exact ihx hr
    | false => exact ihy hr
  | opt x k ih =>
    intro b ids hr
    cases x with
    | none => cases hr
    | some y => exact ih y hr

theorem bin_sound {op : BinOp} {t t' : TypeId} {x y : Operand} (ho : o.op = .binOp op t x y t') (c : Cx B ρ h a w ev lo) (hr : (eff P C o ev lo).run h = some (out, ids)) : Goal P B ρ h a w lo o out := by
  unfold eff at hr
  rw [ho] at hr
  obtain ⟨s, hs, hr⟩ := w1_run hr
  obtain ⟨s', hs', hr⟩ := w1_run hr
  have e := (c.ev _ _ hs).1
  have e' := (c.ev _ _ hs').1
  unfold binS at hr
  cases s with
  | v u =>
    cases s' with
    | v u' =>
      obtain ⟨r, l, l', h1, h2⟩ := bind_run hr
      have := ret_run (h := h) h2
      subst this
      refine goal_pure c ?_
      have h3 := bin1_sound h1 x y w
      unfold execOp
      simp only [den] at e e'
      simp only [ho, e, e', den]
      rw [Sem.run_bind, h3]
      rfl
    | _ => cases hr
  | _ => cases hr

theorem un_sound {op : UnOp} {t : TypeId} {x : Operand} (ho : o.op = .unOp op t x) (c : Cx B ρ h a w ev lo) (hr : (eff P C o ev lo).run h = some (out, ids)) : Goal P B ρ h a w lo o out := by
  unfold eff at hr
  rw [ho] at hr
  obtain ⟨s, hs, hr⟩ := w1_run hr
  have e := (c.ev _ _ hs).1
  unfold unS at hr
  split at hr
  · split at hr
    · have := ret_run (h := h) hr; subst this
      refine goal_pure c ?_
      unfold execOp; simp only [ho, e, den, Op.unary, Op.intArith, Sem.run_bind, Sem.run_pure, Result.andThen_ok]
    · cases hr
  · split at hr
    · have := ret_run (h := h) hr; subst this
      refine goal_pure c ?_
      unfold execOp; simp only [ho, e, den, Op.unary, Sem.run_bind, Sem.run_pure, Result.andThen_ok]
    · cases hr
  · cases hr

theorem conv_sound {t t' : TypeId} {x : Operand} (ho : o.op = .convert t t' x) (c : Cx B ρ h a w ev lo) (hr : (eff P C o ev lo).run h = some (out, ids)) : Goal P B ρ h a w lo o out := by
  unfold eff at hr
  rw [ho] at hr
  obtain ⟨s, hs, hr⟩ := w1_run hr
  have e := (c.ev _ _ hs).1
  unfold convS at hr
  cases hu : P.underlying t with
  | none => rw [hu] at hr; cases hr
  | some d =>
    rw [hu] at hr
    cases hu' : P.underlying t' with
    | none => rw [hu'] at hr; cases hr
    | some d' =>
      rw [hu'] at hr
      cases d' <;> try (cases hr; done)
      case int k =>
        simp only at hr
        split at hr
        · have := ret_run (h := h) hr; subst this
          refine goal_pure c ?_
          unfold execOp; simp only [ho, e, den, convert, run_underlying hu, run_underlying hu', Conv.intToInt, Sem.run_bind, Sem.run_pure, Result.andThen_ok]
        · cases hr
      case string =>
        simp only at hr
        split at hr
        · have := ret_run (h := h) hr; subst this
          refine goal_pure c ?_
          unfold execOp; simp only [ho, e, den, convert, run_underlying hu, run_underlying hu', Sem.run_bind, Sem.run_pure, Result.andThen_ok]
        · cases hr

theorem func_sound {fn : Fn} {fi ca : Array Operand} (ho : o.op = .makeFunc fn fi ca) (c : Cx B ρ h a w ev lo) (hr : (eff P C o ev lo).run h = some (out, ids)) : Goal P B ρ h a w lo o out := by
  unfold eff at hr
  rw [ho] at hr
  simp only at hr
  cases h1 : evL ev fi.toList with
  | none => rw [h1] at hr; cases hr
  | some l1 =>
    rw [h1] at hr
    cases h2 : evL ev ca.toList with
    | none => rw [h2] at hr; cases hr
    | some l2 =>
      rw [h2] at hr
      have := ret_run (h := h) hr; subst this
      have e1 := (evL_den c h1).1
      have e2 := (evL_den c h2).1
      have a1 : fi.map a.eval = (denL ρ l1).toArray := by apply Array.ext'; simpa using e1
      have a2 : ca.map a.eval = (denL ρ l2).toArray := by apply Array.ext'; simpa using e2
      refine goal_pure c ?_
      unfold execOp
      simp only [ho, Instr.makeFunc, a1, a2, Sem.run_bind, Sem.run_pure, Result.andThen_ok, den]

theorem fieldAddr_sound {t : TypeId} {x : Operand} {f : Nat} (ho : o.op = .fieldAddr t x f) (c : Cx B ρ h a w ev lo) (hr : (eff P C o ev lo).run h = some (out, ids)) : Goal P B ρ h a w lo o out := by
  unfold eff at hr
  rw [ho] at hr
  obtain ⟨s, hs, hr⟩ := w1_run hr
  have e := (c.ev _ _ hs).1
  unfold fieldAddrS at hr
  split at hr
  · rename_i fields hu
    split at hr
    · cases hr
    · rename_i fld hf
      split at hr
      · cases hr
      · rename_i z hz
        split at hr
        · cases hr
        · rename_i hz0
          have hz0 : ¬ z = 0 := fun e' => by subst e'; cases hz0
          have key : ∀ (ad : Addr), ad.spot = none → den ρ s = .pointer (some ad) → (execOp a.eval o).run P w = .ok (.value (.pointer (some ⟨ad.block, ad.off + fld.offset, none⟩))) w := by
            intro ad hsp hd
            have hadd : ad.add fld.offset = ⟨ad.block, ad.off + fld.offset, none⟩ := by
              unfold Addr.add
              split
              · rename_i e0; cases ad; simp at hsp; subst hsp; simp [e0]
              · rfl
            unfold execOp
            simp only [ho, e, hd, Instr.fieldAt, Instr.sureAddr, fieldPlace, run_underlying hu, hf, run_sizeOf' hz, Sem.run_bind, Sem.run_pure, Result.andThen_ok, hz0, if_false, hadd]
          split at hr
          · have := ret_run (h := h) hr; subst this
            refine goal_pure c ?_
            rw [key ⟨_, _, none⟩ rfl rfl]
            simp only [den, Nat.add_assoc]
          · have := ret_run (h := h) hr; subst this
            refine goal_pure c ?_
            rw [key ⟨_, _, none⟩ rfl rfl]
            simp only [den, Nat.add_assoc]
          · cases hr
  · cases hr

theorem field_sound {t : TypeId} {x : Operand} {f : Nat} (ho : o.op = .field t x f) (c : Cx B ρ h a w ev lo) (hr : (eff P C o ev lo).run h = some (out, ids)) : Goal P B ρ h a w lo o out := by
  unfold eff at hr
  rw [ho] at hr
  obtain ⟨s, hs, hr⟩ := w1_run hr
  have e := (c.ev _ _ hs).1
  unfold fieldS at hr
  split at hr
  · rename_i fields hu
    split at hr
    · cases hr
    · rename_i fld hf
      split at hr
      · obtain ⟨g, z, s', h1, h2, h3, rfl⟩ := loadS_den hr
        refine goal_pure c ?_
        unfold execOp
        simp only [ho, e, den, Instr.field, asAgg, run_underlying hu, hf, Sem.run_bind, Sem.run_pure, Result.andThen_ok, run_part_at h1 h2 h3]
      · cases hr
  · cases hr

theorem den_slc {id : Nat} (k1 : (ρ id).nil = false) (n off len : Nat) (cap : Option Nat) : ∃ cp, den ρ (.slc id n off len cap) = .slice (some ⟨(ρ id).blk, (ρ id).off + off * n, none⟩) len cp := by
  simp only [den, k1, Bool.false_eq_true, if_false]
  exact ⟨_, rfl⟩

theorem indexAddr_sound {t : TypeId} {x y : Operand} (ho : o.op = .indexAddr t x y) (c : Cx B ρ h a w ev lo) (hr : (eff P C o ev lo).run h = some (out, ids)) : Goal P B ρ h a w lo o out := by
  unfold eff at hr
  rw [ho] at hr
  obtain ⟨s, hs, hr⟩ := w1_run hr
  obtain ⟨s', hs', hr⟩ := w1_run hr
  have e := (c.ev _ _ hs).1
  have e' := (c.ev _ _ hs').1
  unfold indexAddrS at hr
  split at hr
  · rename_i k i
    simp only [den] at e'
    split at hr
    · rename_i el hu
      have hel : P.elem t = el := by simp [Program.elem, hu]
      split at hr
      · cases hr
      · rename_i z hz
        have key : ∀ (b off len cap : Nat), den ρ s = .slice (some ⟨b, off, none⟩) len cap → 0 ≤ i → i < (len : Int) → (execOp a.eval o).run P w = .ok (.value (.pointer (some ⟨b, off + i.toNat * z, none⟩))) w := by
          intro b off len cap hd h0 h1
          have hadd : (⟨b, off, none⟩ : Addr).add (i.toNat * z) = ⟨b, off + i.toNat * z, none⟩ := Addr.add_lit b off _
          unfold execOp
          simp only [ho, e, e', hd, Sem.run_bind, run_indexAt_slice w t _ len cap k i (by rw [hu, hel]), h0, h1, and_self, if_true, hel, run_sizeOf' hz, Result.andThen_ok, Sem.run_pure, hadd]
        cases s with
        | slc id n off len cap =>
          obtain ⟨hn, hr⟩ := cond_run hr
          have hn := Nat.eq_of_beq_eq_true hn
          obtain ⟨ob, ids', hl, hr⟩ := obj_run hr
          cases ob with
          | cells ty cs =>
            obtain ⟨g0, hr⟩ := br_run hr
            obtain ⟨g1, hr⟩ := br_run hr
            have := ret_run (h := h) hr; subst this
            obtain ⟨k1, k2, k3⟩ := c.hr.ok _ _ hl
            refine goal_pure c ?_
            obtain ⟨cp, hd⟩ : ∃ cp, den ρ (.slc id n off len cap) = .slice (some ⟨(ρ id).blk, (ρ id).off + off * n, none⟩) len cp := den_slc k1 n off len cap
            rw [key _ _ _ _ hd (of_decide_eq_true g0) (of_decide_eq_true g1), hn]
            simp only [den, Nat.add_zero, Nat.add_mul, Nat.add_assoc]
          | ro ty cs =>
            obtain ⟨g0, hr⟩ := br_run hr
            obtain ⟨g1, hr⟩ := br_run hr
            have := ret_run (h := h) hr; subst this
            obtain ⟨k1, k2, k3⟩ := c.hr.ok _ _ hl
            refine goal_pure c ?_
            obtain ⟨cp, hd⟩ : ∃ cp, den ρ (.slc id n off len cap) = .slice (some ⟨(ρ id).blk, (ρ id).off + off * n, none⟩) len cp := den_slc k1 n off len cap
            rw [key _ _ _ _ hd (of_decide_eq_true g0) (of_decide_eq_true g1), hn]
            simp only [den, Nat.add_zero, Nat.add_mul, Nat.add_assoc]
          | _ => cases hr
        | all id =>
          obtain ⟨ob, ids', hl, hr⟩ := obj_run hr
          cases ob with
          | row ty sc l =>
            obtain ⟨hn, hr⟩ := cond_run hr
            obtain ⟨g0, hr⟩ := br_run hr
            obtain ⟨g1, hr⟩ := br_run hr
            have := ret_run (h := h) hr; subst this
            have g0 := of_decide_eq_true g0
            have g1 : i < (l.length : Int) := of_decide_eq_true g1
            obtain ⟨k0, k1⟩ := c.hr.ok _ _ hl
            rcases k1 with ⟨_, k1, _⟩ | ⟨k1, k2, _⟩
            · subst k1; simp at g1; omega
            · refine goal_pure c ?_
              have hd : den ρ (.all id) = .slice (some ⟨(ρ id).blk, (ρ id).off, none⟩) (ρ id).len (ρ id).cap := by simp only [den, k1, Bool.false_eq_true, if_false]
              rw [key _ _ _ _ hd g0 (by rw [k0]; exact g1)]
              simp only [den, Nat.add_zero]
          | arg sc l =>
            obtain ⟨hn, hr⟩ := cond_run hr
            obtain ⟨g0, hr⟩ := br_run hr
            obtain ⟨g1, hr⟩ := br_run hr
            have := ret_run (h := h) hr; subst this
            have g0 := of_decide_eq_true g0
            have g1 : i < (l.length : Int) := of_decide_eq_true g1
            obtain ⟨k0, k1⟩ := c.hr.ok _ _ hl
            rcases k1 with ⟨_, k1, _⟩ | ⟨hnil, k1, k3, k4⟩
            · subst k1; simp at g1; omega
            refine goal_pure c ?_
            have hd : den ρ (.all id) = .slice (some ⟨(ρ id).blk, (ρ id).off, none⟩) (ρ id).len (ρ id).cap := by simp only [den, hnil, Bool.false_eq_true, if_false]
            rw [key _ _ _ _ hd g0 (by rw [k0]; exact g1)]
            simp only [den, Nat.add_zero]
          | _ => cases hr
        | _ => cases hr
    · rename_i m el hu
      have hel : P.elem t = el := by simp [Program.elem, hu]
      have hml : P.arrayLen t = m := by simp [Program.arrayLen, hu]
      split at hr
      · cases hr
      · rename_i z hz
        cases s with
        | ptr id off =>
          obtain ⟨g0, hr⟩ := br_run hr
          obtain ⟨g1, hr⟩ := br_run hr
          have := ret_run (h := h) hr; subst this
          have g0 := of_decide_eq_true g0
          have g1 := of_decide_eq_true g1
          refine goal_pure c ?_
          have hadd : (⟨(ρ id).blk, (ρ id).off + off, none⟩ : Addr).add (i.toNat * z) = ⟨(ρ id).blk, (ρ id).off + off + i.toNat * z, none⟩ := Addr.add_lit _ _ _
          unfold execOp
          simp only [ho, e, e', den, Sem.run_bind, run_indexAt_array w t _ k i (by rw [hu, hel, hml]), hml, g0, g1, and_self, if_true, hel, run_sizeOf' hz, Result.andThen_ok, Sem.run_pure, hadd, Nat.add_assoc]
        | _ => cases hr
    · cases hr
  · cases hr

theorem index_sound {t : TypeId} {x y : Operand} (ho : o.op = .index t x y) (c : Cx B ρ h a w ev lo) (hr : (eff P C o ev lo).run h = some (out, ids)) : Goal P B ρ h a w lo o out := by
  unfold eff at hr
  rw [ho] at hr
  obtain ⟨s, hs, hr⟩ := w1_run hr
  obtain ⟨s', hs', hr⟩ := w1_run hr
  have e := (c.ev _ _ hs).1
  have e' := (c.ev _ _ hs').1
  unfold indexS at hr
  split at hr
  · rename_i k i
    simp only [den] at e'
    split at hr
    · rename_i m el hu
      split at hr
      · cases hr
      · rename_i z hz
        split at hr
        · rename_i cs
          obtain ⟨g0, hr⟩ := br_run hr
          obtain ⟨g1, hr⟩ := br_run hr
          have g0 := of_decide_eq_true g0
          have g1 := of_decide_eq_true g1
          obtain ⟨g, z', s', h1, h2, h3, rfl⟩ := loadS_den hr
          refine goal_pure c ?_
          unfold execOp
          simp only [ho, e, e', den, Instr.index, asIntOf, run_underlying hu, Sem.run_bind, Sem.run_pure, Result.andThen_ok, g0, g1, and_self, if_true, run_sizeOf' hz, run_part_at h1 h2 h3]
        · cases hr
    · rename_i hu
      have key : ∀ (st : ByteArray), den ρ s = .string st → 0 ≤ i → i < (st.size : Int) → (execOp a.eval o).run P w = .ok (.value (.int .u8 (bt st i))) w := by
        intro st hd g0 g1
        have hlt : i.toNat < st.size := by omega
        unfold execOp
        simp only [ho, e, e', hd, Instr.index, asIntOf, run_underlying hu, Sem.run_bind, Sem.run_pure, Result.andThen_ok, g0, if_true, bt, getElem?_pos st i.toNat hlt]
      split at hr
      · obtain ⟨g0, hr⟩ := br_run hr
        obtain ⟨g1, hr⟩ := br_run hr
        have := ret_run (h := h) hr; subst this
        refine goal_pure c ?_
        rw [key _ rfl (of_decide_eq_true g0) (of_decide_eq_true g1)]
        rfl
      · cases hr
    · cases hr
  · cases hr

theorem extract_sound {x : Operand} {i : Nat} (ho : o.op = .extract x i) (c : Cx B ρ h a w ev lo) (hr : (eff P C o ev lo).run h = some (out, ids)) : Goal P B ρ h a w lo o out := by
  unfold eff at hr
  rw [ho] at hr
  obtain ⟨s, hs, hr⟩ := w1_run hr
  have e := (c.ev _ _ hs).1
  cases s with
  | tup l =>
    simp only at hr
    cases hi : l[i]? with
    | none => rw [hi] at hr; cases hr
    | some s' =>
      rw [hi] at hr
      have := ret_run (h := h) hr; subst this
      refine goal_pure c ?_
      have hx : (denL ρ l)[i]? = some (den ρ s') := by rw [denL_getElem?, hi]; rfl
      unfold execOp
      simp only [ho, e, den, Instr.extract, List.getElem?_toArray, hx, Sem.run_bind, Sem.run_pure, Result.andThen_ok]
  | _ => cases hr

theorem len_sound {cl : Call} {t : TypeId} {x : Operand} {s : SV} (ho : o.op = .call cl) (hc : cl.callee = .builtin .len) (ht : cl.argTypes = #[t]) (hx : cl.args = #[x]) (hs : ev x = some s) (c : Cx B ρ h a w ev lo)
    (hr : (lenS P t s).run h = some (out, ids)) : Goal P B ρ h a w lo o out := by
  have e := (c.ev _ _ hs).1
  have key : ∀ v, (Builtin.len_ #[t] o.type #[den ρ s]).run P w = .ok v w → (execOp a.eval o).run P w = .ok (.value v) w := by
    intro v hv
    unfold execOp
    simp only [ho, resolve, hc, ht, hx, List.map_toArray, List.map_cons, List.map_nil, e, Sem.run_bind, Sem.run_pure, Result.andThen_ok, invoke, builtin, hv]
  have out1 : ∀ {n : Int}, out = ⟨.v (.int .i64 n), []⟩ → (Builtin.len_ #[t] o.type #[den ρ s]).run P w = .ok (.int .i64 n) w → Goal P B ρ h a w lo o out := by
    intro n h1 h2
    subst h1
    exact goal_pure c (key _ h2)
  unfold lenS at hr
  split at hr
  · rename_i el hu
    have hel : P.elem t = el := by simp [Program.elem, hu]
    have lsl : ∀ (b : Option Addr) (n cap : Nat), den ρ s = .slice b n cap → (Builtin.len_ #[t] o.type #[den ρ s]).run P w = .ok (.int .i64 n) w := by
      intro b n cap hd
      rw [hd, run_len_slice w t _ b n cap (by rw [hu, hel])]
      rfl
    split at hr
    · exact out1 (ret_run (h := h) hr) (lsl _ _ _ rfl)
    · obtain ⟨ob, ids', hl, hr⟩ := obj_run hr
      cases ob with
      | cells ty cs =>
        obtain ⟨k1, k2, k3⟩ := c.hr.ok _ _ hl
        exact out1 (ret_run (h := h) hr) (lsl _ _ _ (by simp only [den, k1, Bool.false_eq_true, if_false]; rfl))
      | ro ty cs =>
        obtain ⟨k1, k2, k3⟩ := c.hr.ok _ _ hl
        exact out1 (ret_run (h := h) hr) (lsl _ _ _ (by simp only [den, k1, Bool.false_eq_true, if_false]; rfl))
      | _ => cases hr
    · rename_i id
      obtain ⟨ob, ids', hl, hr⟩ := obj_run hr
      cases ob with
      | row ty sc l =>
        obtain ⟨k0, k1⟩ := c.hr.ok _ _ hl
        refine out1 (ret_run (h := h) hr) ?_
        rcases k1 with ⟨k1, k2, _⟩ | ⟨k1, _⟩
        · subst k2; exact lsl none 0 0 (by simp only [den, k1, if_true])
        · rw [← k0]; exact lsl _ _ _ (by simp only [den, k1, Bool.false_eq_true, if_false]; rfl)
      | arg sc l =>
        obtain ⟨k0, k1⟩ := c.hr.ok _ _ hl
        refine out1 (ret_run (h := h) hr) ?_
        rcases k1 with ⟨k1, k2, _⟩ | ⟨k1, _⟩
        · subst k2; exact lsl none 0 0 (by simp only [den, k1, if_true])
        · rw [← k0]; exact lsl _ _ _ (by simp only [den, k1, Bool.false_eq_true, if_false]; rfl)
      | _ => cases hr
    · cases hr
  · rename_i hu
    split at hr
    · refine out1 (ret_run (h := h) hr) ?_
      simp only [den, Builtin.len_, List.getElem?_toArray, List.getElem?_cons_zero, run_underlying hu, Sem.run_bind, Result.andThen_ok, Sem.run_pure]
      rfl
    · cases hr
  · rename_i m el hu
    refine out1 (ret_run (h := h) hr) ?_
    simp only [Builtin.len_, List.getElem?_toArray, List.getElem?_cons_zero, run_underlying hu, Sem.run_bind, Result.andThen_ok]
    rfl
  · cases hr

end
end Go.Proofs.Ytcheokphnhjomaa.Ax
