/- AX 9: each operation is sound. -/
import Derived.Test.YtcheokphnhjomaaAx8
namespace Go.Proofs.Ytcheokphnhjomaa.Ax
open Go Go.RowKit
set_option linter.unusedVariables false
set_option linter.unusedSimpArgs false

/-- A call of a function runs to a value: it is entered, or a row of the model's answers. -/
def CallGives (P : Program) (g : FuncId) (args : Array Value) (w : World) (S : Value → World → Prop) : Prop :=
  ((callFunc g args).run P w = .ok (.enter g args) w ∧ Calls P g args w fun e w' => ∃ v, e = .returned v ∧ S v w') ∨
  (∃ v w', (callFunc g args).run P w = .ok (.value v) w' ∧ S v w')

/-- A callee's contract is true. -/
def ConOk (P : Program) (B : Nat → Prop) (g : FuncId) (φ : Con) : Prop :=
  ∀ (args : List SV) (ρ : Rho) (h : Hp) (w : World) (lo : Nat) (out : Out) (ids : List Nat), (φ args lo).run h = some (out, ids) → HR B ρ h w → HFree lo (lo + wide) h → freeL lo (lo + wide) args = true → (∀ b, w.heap.size ≤ b → B b) →
    CallGives P g (denL ρ args).toArray w fun v w' => ∃ ρ', Made B ρ h w lo (lo + wide) out ρ' v w'

/-- What a step's operands are worth, and what stands in the heap. -/
structure Cx (B : Nat → Prop) (ρ : Rho) (h : Hp) (a : Act) (w : World) (ev : Operand → Option SV) (lo : Nat) : Prop where
  ev : ∀ x s, ev x = some s → a.eval x = den ρ s ∧ s.free lo (lo + wide) = true
  hr : HR B ρ h w
  hf : HFree lo (lo + wide) h
  up : ∀ b, w.heap.size ≤ b → B b

section
variable {P : Program} {C : FuncId → Option Con} {B : Nat → Prop} {ρ : Rho} {h : Hp} {a : Act} {w : World} {ev : Operand → Option SV} {lo : Nat} {o : Oper} {out : Out} {ids : List Nat}

abbrev Goal (P : Program) (B : Nat → Prop) (ρ : Rho) (h : Hp) (a : Act) (w : World) (lo : Nat) (o : Oper) (out : Out) : Prop := Gives P o a w fun v w' => ∃ ρ', Made B ρ h w lo (lo + wide) out ρ' v w'

theorem w1_run {α : Type} {x : Option SV} {k : SV → Rd α} {r : α} (hr : (w1 x k).run h = some (r, ids)) : ∃ s, x = some s ∧ (k s).run h = some (r, ids) := by
  unfold w1 at hr
  cases x with
  | none => cases hr
  | some s => exact ⟨s, rfl, hr⟩
theorem obj_run {α : Type} {id : Nat} {k : AObj → Rd α} {r : α} (hr : (Rd.obj id k).run h = some (r, ids)) : ∃ o ids', look h id = some o ∧ (k o).run h = some (r, ids') := by
  simp only [Rd.run] at hr
  cases hl : look h id with
  | none => rw [hl] at hr; cases hr
  | some o =>
    rw [hl] at hr
    simp only [Option.map_eq_some_iff] at hr
    obtain ⟨⟨x, l⟩, h1, h2⟩ := hr
    cases h2
    exact ⟨o, l, rfl, h1⟩
theorem br_run {α : Type} {b : Bool} {t : Rd α} {r : α} (hr : (Rd.br b t .fail).run h = some (r, ids)) : b = true ∧ t.run h = some (r, ids) := by
  cases b with
  | true => exact ⟨rfl, hr⟩
  | false => cases hr
theorem cond_run {α : Type} {b : Bool} {t : Rd α} {r : α} (hr : (cond b t .fail).run h = some (r, ids)) : b = true ∧ t.run h = some (r, ids) := by
  cases b with
  | true => exact ⟨rfl, hr⟩
  | false => cases hr
theorem ret_run {α : Type} {x r : α} (hr : (Rd.ret x).run h = some (r, ids)) : r = x := by cases hr; rfl

/-- A value, the world as it was. -/
theorem goal_pure {s : SV} (c : Cx B ρ h a w ev lo) (hrun : (execOp a.eval o).run P w = .ok (.value (den ρ s)) w) : Goal P B ρ h a w lo o ⟨s, []⟩ :=
  Gives.value hrun ⟨ρ, made_pure c.hr⟩

theorem evL_den (c : Cx B ρ h a w ev lo) : ∀ {l : List Operand} {r : List SV}, evL ev l = some r → l.map a.eval = denL ρ r ∧ freeL lo (lo + wide) r = true
  | [], r, he => by cases he; exact ⟨rfl, rfl⟩
  | x :: l, r, he => by
    simp only [evL] at he
    cases hx : ev x with
    | none => rw [hx] at he; cases he
    | some s =>
      rw [hx] at he
      cases hl : evL ev l with
      | none => rw [hl] at he; cases he
      | some r' =>
        rw [hl] at he
        cases he
        obtain ⟨h1, h2⟩ := evL_den c hl
        obtain ⟨h3, h4⟩ := c.ev x s hx
        exact ⟨by simp only [List.map_cons, denL, h1, h3], by simp only [freeL, h4, h2, Bool.and_true]⟩
theorem evParts_den (c : Cx B ρ h a w ev lo) : ∀ {l : List (Nat × Operand)} {r : List (Nat × SV)}, evParts ev l = some r → l.map (fun p => (p.1, a.eval p.2)) = denP ρ r ∧ (∀ p ∈ r, p.2.free lo (lo + wide) = true)
  | [], r, he => by cases he; exact ⟨rfl, by simp⟩
  | (i, x) :: l, r, he => by
    simp only [evParts] at he
    cases hx : ev x with
    | none => rw [hx] at he; cases he
    | some s =>
      rw [hx] at he
      cases hl : evParts ev l with
      | none => rw [hl] at he; cases he
      | some r' =>
        rw [hl] at he
        cases he
        obtain ⟨h1, h2⟩ := evParts_den c hl
        obtain ⟨h3, h4⟩ := c.ev x s hx
        refine ⟨by simp only [List.map_cons, denP, h3]; congr 1, fun p hp => ?_⟩
        rcases List.mem_cons.1 hp with hp | hp
        · subst hp; exact h4
        · exact h2 p hp
theorem parts_map (a : Act) (parts : Array (Nat × Operand)) : (parts.map fun (i, x) => (i, a.eval x)).toList = parts.toList.map (fun p => (p.1, a.eval p.2)) := by simp

theorem loadS_den {t : TypeId} {cs : List SV} {off : Nat} (hr : (loadS P t cs off).run h = some (out, ids)) :
    ∃ g z s, aggT P t = some g ∧ szT P t = some z ∧ part1 cs g off z = some s ∧ out = ⟨s, []⟩ := by
  unfold loadS at hr
  cases hg : aggT P t with
  | none => rw [hg] at hr; cases hr
  | some g =>
    rw [hg] at hr
    cases hz : szT P t with
    | none => rw [hz] at hr; cases hr
    | some z =>
      rw [hz] at hr
      simp only at hr
      cases hp : part1 cs g off z with
      | none => rw [hp] at hr; cases hr
      | some s =>
        rw [hp] at hr
        exact ⟨g, z, s, rfl, rfl, hp, ret_run hr⟩

/-- A part out of an aggregate's cells. -/
theorem run_part_at {t : TypeId} {cs : List SV} {off : Nat} {g : Bool} {z : Nat} {s : SV} (hg : aggT P t = some g) (hz : szT P t = some z) (hp : part1 cs g off z = some s) :
    (part t (denL ρ cs).toArray off).run P w = .ok (den ρ s) w := by
  obtain ⟨h1, h2⟩ := part1_den (ρ := ρ) hp
  unfold part
  rw [Sem.run_bind, run_isAgg hg]
  cases g with
  | true =>
    obtain ⟨h3, h4⟩ := h1 rfl
    simp only [Result.andThen_ok, if_true]
    rw [Sem.run_bind, run_sizeOf' hz]
    simp only [Result.andThen_ok, Sem.run_pure, h4]
    congr 3
    apply Array.ext'
    simp [List.take_drop, Nat.add_comm]
  | false =>
    have h3 := h2 rfl
    simp only [Result.andThen_ok, Bool.false_eq_true, if_false, List.getElem?_toArray, h3, Sem.run_pure]

/-- The flat cells of a row's element. -/
theorem flat_drop (s : List Sc) : ∀ (l : List (TT s)) (i : Nat), i < l.length → ((flat s l).drop (i * s.length)).take s.length = enc s (l.getD i (dfl s))
  | [], i, hi => by simp at hi
  | x :: l, 0, _ => by
    simp only [flat, List.map_cons, List.flatten_cons, Nat.zero_mul, List.drop_zero, List.getD_cons_zero]
    rw [List.take_append_of_le_length (by rw [enc_length]; exact Nat.le_refl _), List.take_of_length_le (by rw [enc_length]; exact Nat.le_refl _)]
  | x :: l, i + 1, hi => by
    have := flat_drop s l i (by simpa using hi)
    simp only [flat, List.map_cons, List.flatten_cons, List.getD_cons_succ]
    rw [List.drop_append, List.drop_of_length_le (by rw [enc_length, Nat.succ_mul]; exact Nat.le_add_left _ _), List.nil_append, enc_length, show (i + 1) * s.length - s.length = i * s.length by rw [Nat.succ_mul]; omega]
    exact this
theorem flat_length (s : List Sc) : ∀ (l : List (TT s)), (flat s l).length = l.length * s.length
  | [] => by simp [flat]
  | x :: l => by
    have := flat_length s l
    simp only [flat] at this
    simp only [flat, List.map_cons, List.flatten_cons, List.length_append, enc_length, this, List.length_cons, Nat.succ_mul]
    omega

/-- Reading a variable where its cells are known one by one. -/
theorem run_loadVar_cells {g o : Nat} {t : TypeId} {agg : Bool} {size : Nat} {cs : List SV} {sub : Nat} {s : SV} (hc : ∀ j v, (denL ρ cs)[j]? = some v → w.cell? ⟨g, o + j, none⟩ = some v)
    (ha : aggT P t = some agg) (hs : szT P t = some size) (hp : part1 cs agg sub size = some s) : (loadVar t ⟨g, o + sub, none⟩).run P w = .ok (den ρ s) w := by
  obtain ⟨h1, h2⟩ := part1_den (ρ := ρ) hp
  unfold loadVar
  rw [Sem.run_bind, run_isAgg ha]
  cases agg with
  | true =>
    obtain ⟨h3, h4⟩ := h1 rfl
    simp only [Result.andThen_ok, if_true]
    rw [Sem.run_bind, run_sizeOf' hs]
    simp only [Result.andThen_ok]
    have hl := run_loadCells_list (P := P) w ⟨g, o + sub, none⟩ (((denL ρ cs).drop sub).take size) (fun j v hv => by
      have hadd : (⟨g, o + sub, none⟩ : Addr).add j = ⟨g, o + (sub + j), none⟩ := by unfold Addr.add; split <;> simp_all <;> omega
      rw [hadd]
      refine hc _ _ ?_
      rw [List.getElem?_take] at hv
      split at hv
      · rw [List.getElem?_drop] at hv; exact hv
      · cases hv)
    rw [show (((denL ρ cs).drop sub).take size).length = size by simp [denL_length]; omega] at hl
    rw [Sem.run_bind, hl, h4]
    rfl
  | false =>
    have h3 := h2 rfl
    simp only [Result.andThen_ok, Bool.false_eq_true, if_false]
    rw [run_load, hc sub _ h3]

theorem load_sound {t : TypeId} {x : Operand} (ho : o.op = .load t x) (c : Cx B ρ h a w ev lo) (hr : (eff P C o ev lo).run h = some (out, ids)) : Goal P B ρ h a w lo o out := by
  unfold eff at hr
  rw [ho] at hr
  obtain ⟨s, hs, hr⟩ := w1_run hr
  obtain ⟨he, hfr⟩ := c.ev x s hs
  have exec : ∀ (ad : Addr) (v : SV), den ρ s = .pointer (some ad) → (loadVar t ad).run P w = .ok (den ρ v) w → Goal P B ρ h a w lo o ⟨v, []⟩ := by
    intro ad v hd hl
    refine goal_pure c ?_
    unfold execOp
    simp only [ho, he, hd, Instr.loadAt, Instr.sureAddr, Sem.run_bind, Sem.run_pure, Result.andThen_ok, hl]
  cases s with
  | ptr id off =>
    obtain ⟨ob, ids', hl, hr⟩ := obj_run hr
    cases ob with
    | cells ty cs =>
      obtain ⟨g, z, s', h1, h2, h3, rfl⟩ := loadS_den hr
      obtain ⟨k1, k2, k3⟩ := c.hr.ok _ _ hl
      refine exec ⟨(ρ id).blk, (ρ id).off + off, none⟩ s' rfl ?_
      rw [k2, Nat.zero_add]
      exact run_loadVar_at k3 h1 h2 h3
    | ro ty cs =>
      obtain ⟨g, z, s', h1, h2, h3, rfl⟩ := loadS_den hr
      obtain ⟨k1, k2, k3⟩ := c.hr.ok _ _ hl
      refine exec ⟨(ρ id).blk, (ρ id).off + off, none⟩ s' rfl ?_
      rw [k2, Nat.zero_add]
      exact run_loadVar_at k3 h1 h2 h3
    | _ => cases hr
  | elt id n i sub =>
    obtain ⟨ob, ids', hl, hr⟩ := obj_run hr
    cases ob with
    | cells ty cs =>
      obtain ⟨g, z, s', h1, h2, h3, rfl⟩ := loadS_den hr
      obtain ⟨k1, k2, k3⟩ := c.hr.ok _ _ hl
      refine exec ⟨(ρ id).blk, (ρ id).off + i * n + sub, none⟩ s' rfl ?_
      rw [k2, Nat.zero_add]
      exact run_loadVar_at k3 h1 h2 h3
    | ro ty cs =>
      obtain ⟨g, z, s', h1, h2, h3, rfl⟩ := loadS_den hr
      obtain ⟨k1, k2, k3⟩ := c.hr.ok _ _ hl
      refine exec ⟨(ρ id).blk, (ρ id).off + i * n + sub, none⟩ s' rfl ?_
      rw [k2, Nat.zero_add]
      exact run_loadVar_at k3 h1 h2 h3
    | row ty sc l =>
      obtain ⟨hn, hr1⟩ := cond_run hr
      obtain ⟨hi, hr2⟩ := br_run hr1
      have hn := Nat.eq_of_beq_eq_true hn
      have hi : i < l.length := of_decide_eq_true hi
      subst hn
      obtain ⟨g, z, s', h1, h2, h3, rfl⟩ := loadS_den hr2
      obtain ⟨k0, k1⟩ := c.hr.ok _ _ hl
      rcases k1 with ⟨_, k1, _⟩ | ⟨k1, k2, k3, arr, k4, k5, k6⟩
      · subst k1; simp at hi
      · refine exec ⟨(ρ id).blk, (ρ id).off + i * sc.length + sub, none⟩ s' rfl ?_
        refine run_loadVar_cells (ρ := ρ) (cs := (enc sc (l.getD i (dfl sc))).map SV.v) (fun j v hv => ?_) h1 h2 h3
        rw [map_v] at hv
        rw [k2, Nat.zero_add, cell_of_row w _ _ _ _ _ k4]
        have hj : j < sc.length := by
          have := (List.getElem?_eq_some_iff.1 hv).1
          rwa [enc_length] at this
        rw [← flat_drop sc l i hi, List.getElem?_take, if_pos hj, List.getElem?_drop, ← k6, List.getElem?_take] at hv
        split at hv
        · simpa using hv
        · cases hv
    | arg sc l =>
      obtain ⟨hn, hr1⟩ := cond_run hr
      obtain ⟨hi, hr2⟩ := br_run hr1
      have hn := Nat.eq_of_beq_eq_true hn
      have hi : i < l.length := of_decide_eq_true hi
      subst hn
      obtain ⟨g, z, s', h1, h2, h3, rfl⟩ := loadS_den hr2
      obtain ⟨k0, k1⟩ := c.hr.ok _ _ hl
      rcases k1 with ⟨_, k1, _⟩ | ⟨hnil, k1, k3, k4⟩
      · subst k1; simp at hi
      refine exec ⟨(ρ id).blk, (ρ id).off + i * sc.length + sub, none⟩ s' rfl ?_
      refine run_loadVar_cells (ρ := ρ) (cs := (enc sc (l.getD i (dfl sc))).map SV.v) (fun j v hv => ?_) h1 h2 h3
      rw [map_v] at hv
      have hj : j < sc.length := by
        have := (List.getElem?_eq_some_iff.1 hv).1
        rwa [enc_length] at this
      rw [← flat_drop sc l i hi, List.getElem?_take, if_pos hj, List.getElem?_drop] at hv
      rw [Nat.add_assoc]
      exact k4 _ _ hv
    | _ => cases hr
  | _ => cases hr

theorem storeS_sound {t ty : TypeId} {x y : Operand} (ho : o.op = .store t x y) (c : Cx B ρ h a w ev lo) {s sx : SV} {id off : Nat} {cs : List SV} (hx : ev x = some s) (hy : ev y = some sx) (hl : look h id = some (.cells ty cs))
    (hd : den ρ s = .pointer (some ⟨(ρ id).blk, (ρ id).off + off, none⟩)) (hr : (storeS P t ty id cs off sx).run h = some (out, ids)) : Goal P B ρ h a w lo o out := by
  unfold storeS at hr
  cases hz : szT P t with
  | none => rw [hz] at hr; cases hr
  | some z =>
    rw [hz] at hr
    obtain ⟨hb, hr⟩ := cond_run hr
    have := ret_run hr
    subst this
    simp only [Bool.and_eq_true] at hb
    obtain ⟨⟨b1, b2⟩, b3⟩ := hb
    have b1 := Nat.eq_of_beq_eq_true b1
    have b2 := Nat.le_of_ble_eq_true b2
    obtain ⟨k1, k2, k3⟩ := c.hr.ok _ _ hl
    obtain ⟨he, _⟩ := c.ev x s hx
    obtain ⟨hey, _⟩ := c.ev y sx hy
    have hst := run_storeCells_at (P := P) (ρ id).blk ((ρ id).off + off) ty (denL ρ (cellsS sx)) 0 (denL ρ cs) w k3 (by rw [k2, denL_length, denL_length, b1]; omega) (allOne_den b3)
    rw [k2, Nat.zero_add, Nat.add_zero, ← denL_repl] at hst
    have hsz : (den ρ sx).cells.size = z := by rw [← Array.length_toList, cellsS_den, denL_length]; exact b1
    refine Gives.skip (w' := w.setRow (ρ id).blk (denL ρ (repl cs off (cellsS sx))).toArray) ?_ ⟨ρ, ?_⟩
    · unfold execOp
      simp only [ho, he, hd, hey, Instr.storeAt, Instr.sureAddr, Sem.run_bind, Sem.run_pure, Result.andThen_ok, storeVar, run_sizeOf' hz, hsz, ne_eq, not_true_eq_false, if_false]
      rw [k2, Nat.zero_add, cellsS_den, hst]
      rfl
    · have hlo := (c.hf _ _ hl).1
      exact made_set (s := .v undef) (o' := .cells ty (repl cs off (cellsS sx))) c.hr hlo hl rfl rfl k1 rfl rfl rfl (setRow_size _ _ _) (fun b hb => setRow_other _ _ _ _ hb)
        ⟨k1, k2, setRow_heap _ _ _ _ _ _ k3⟩

theorem store_sound {t : TypeId} {x y : Operand} (ho : o.op = .store t x y) (c : Cx B ρ h a w ev lo) (hr : (eff P C o ev lo).run h = some (out, ids)) : Goal P B ρ h a w lo o out := by
  unfold eff at hr
  rw [ho] at hr
  obtain ⟨s, hs, hr⟩ := w1_run hr
  obtain ⟨sx, hsx, hr⟩ := w1_run hr
  cases s with
  | ptr id off =>
    obtain ⟨ob, ids', hl, hr⟩ := obj_run hr
    cases ob with
    | cells ty cs => exact storeS_sound ho c hs hsx hl rfl hr
    | _ => cases hr
  | elt id n i sub =>
    obtain ⟨ob, ids', hl, hr⟩ := obj_run hr
    cases ob with
    | cells ty cs => exact storeS_sound ho c hs hsx hl (by simp only [den]; rw [Nat.add_assoc]) hr
    | _ => cases hr
  | _ => cases hr

end
end Go.Proofs.Ytcheokphnhjomaa.Ax
