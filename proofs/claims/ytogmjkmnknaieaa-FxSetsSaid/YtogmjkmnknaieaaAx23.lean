/- AX 23: callees that write to what they are handed, as plain functions of what stands there (conV); rows that are laid under names of their own at a callee's end. -/
import Derived.Test.YtogmjkmnknaieaaRngA
import Derived.Test.YtogmjkmnknaieaaFxE
import Derived.Test.YtogmjkmnknaieaaFxF
import Derived.Test.YtogmjkmnknaieaaX0
import Derived.Test.YtogmjkmnknaieaaAx22
namespace Go.Proofs.Ytogmjkmnknaieaa.Ax
open Go Go.RowKit Go.Proofs.Ytogmjkmnknaieaa.Print
set_option linter.unusedVariables false
set_option linter.unusedSimpArgs false
noncomputable def CCl : FuncId → Option Con
  | 7 => some (autoP true C0 Try.f7)
  | 16 => some (autoP false C0 Try.f16)
  | _ => none
theorem CCl_ok : ∀ B' g φ, CCl g = some φ → ConOk Try.prog B' g φ := by
  intro B' g φ h
  unfold CCl at h
  split at h <;> first | (cases h; done) | skip
  · cases h; exact autoP_ok true C0_ok Try.func7 (by kernel_rfl) (by kernel_rfl) B'
  · cases h; exact autoP_ok false C0_ok Try.func16 (by kernel_rfl) (by kernel_rfl) B'
def seqL : Code → Code
  | .seq a _ => a
  | c => c
def seqR : Code → Code
  | .seq _ b => b
  | c => c
def inB : Code → Code
  | .block _ c => c
  | c => c
def inL : Code → Code
  | .loop c => c
  | c => c
def opsR : Code → Array Oper
  | .region _ o _ => o
  | _ => #[]
noncomputable abbrev fCl : Func := Try.f14
noncomputable def b0 : Code := bodyOf fCl
noncomputable def b1 : Code := seqR b0
noncomputable def b2 : Code := seqR b1
noncomputable def b3 : Code := seqR b2
noncomputable def b4 : Code := seqR b3
noncomputable def b5 : Code := seqR b4
noncomputable def bL : Code := inL (inB (seqR (seqL b4)))
noncomputable def bK : Code := seqR (seqR bL)
theorem code_eq : bodyOf fCl = .seq (seqL b0) (.seq (seqL b1) (.seq (seqL b2) (.seq (seqL b3) (.seq (.seq (seqL (seqL b4)) (.block 0 (.loop bL))) b5)))) := by kernel_rfl
noncomputable def ops7 : Array Oper := opsR (seqL bL)
theorem loop_eq : bL = .seq (.region 7 ops7 false) (.seq (.cond (.tmp 19) .skip (.exit 0)) bK) := by kernel_rfl
noncomputable def o70 : Oper := match ops7[0]? with | some o => o | none => { dst := none, op := .move (.tmp 0), type := 0, pos := "", after := #[], guard := none }
noncomputable def o71 : Oper := match ops7[1]? with | some o => o | none => { dst := none, op := .move (.tmp 0), type := 0, pos := "", after := #[], guard := none }
theorem ops70 : ops7[0]? = some o70 := by kernel_rfl
theorem ops71 : ops7[1]? = some o71 := by kernel_rfl
theorem ops7s : List.range ops7.size = [0, 1] := by kernel_rfl
theorem o70_op : o70.op = .next (.tmp 17) false := by kernel_rfl
theorem o71_op : o71.op = .extract (.tmp 18) 0 := by kernel_rfl
theorem o70_g : o70.guard = none := by kernel_rfl
theorem o71_g : o71.guard = none := by kernel_rfl
theorem o70_d : o70.dst = some 18 := by kernel_rfl
theorem o71_d : o71.dst = some 19 := by kernel_rfl
def s0 (m : Obj) : St := ⟨[(0, .ptr 0 0)], [(0, .ro 47 [.map 1]), (1, .raw m)], 4⟩
def s1 (m : Obj) (l : List (KF × VF)) : St := ⟨[(0, .ptr 0 0), (3, .ptr 2 0)], [(0, .ro 47 [.map 1]), (1, .raw m), (2, .cells 47 [.map 3]), (3, .mapo ksF vsF l)], 6⟩
def s2 (m i : Obj) (l : List (KF × VF)) : St := ⟨[(0, .ptr 0 0), (3, .ptr 2 0), (17, .ptr 3 0)], [(0, .ro 47 [.map 1]), (1, .raw m), (2, .cells 47 [.map 4]), (3, .raw i), (4, .mapo ksF vsF l)], 7⟩
def st3 (m i : Obj) (l : List (KF × VF)) (v : SV) (b : Bool) : St := ⟨[(0, .ptr 0 0), (3, .ptr 2 0), (17, .ptr 3 0), (18, v), (19, .v (.bool b))], [(0, .ro 47 [.map 1]), (1, .raw m), (2, .cells 47 [.map 4]), (3, .raw i), (4, .mapo ksF vsF l)], 7⟩
theorem c0_eq (m : Obj) : ev (eff Try.prog CCl) fCl.ntmps cn0 1 (seqL b0) (s0 m) (Kn [0] 2) = some (s0 m) := by kernel_rfl
theorem c1_eq (m : Obj) : ev (eff Try.prog CCl) fCl.ntmps cn0 1 (seqL b1) (s0 m) (Kn [0] 2) = some (s0 m) := by kernel_rfl
theorem c2_eq (m : Obj) : ev (eff Try.prog CCl) fCl.ntmps cn0 1 (seqL b2) (s0 m) (Kn [0] 2) = some (s0 m) := by kernel_rfl
theorem c3_eq (m : Obj) : ev (eff Try.prog CCl) fCl.ntmps cn0 1 (seqL b3) (s0 m) (Kn [0, 3] 2) = some (s1 m []) := by kernel_rfl
theorem c6_eq (bm : Nat) (es : Array MapEntry) (clock : Nat) : ev (effX Try.prog CCl (rngX Try.prog bm es clock)) fCl.ntmps cn0 1 (seqL (seqL b4)) (s1 (.map es clock) []) (Kn [0, 3, 17] 2) =
    sel (cdec (Obj.map es clock = .map es clock)) (some (s2 (.map es clock) (.mapIter (some bm) clock #[] clock) [])) none := by kernel_rfl
theorem cK_eq (m it : Obj) (k : KF) (v : VF) (l : List (KF × VF)) : ev (effX Try.prog CCl (entX (ks := ksF) (vs := vsF) it m k v)) fCl.ntmps cn0 1 bK (s2 m it l) (Kn [0, 3, 17] 2) =
    sel (cdec (it = it)) (sel (cdec (m = m)) (sel (mOkF k l && (mFindF k l).isNone) (some (s2 m it (l ++ [(k, v)]))) none) none) none := by kernel_rfl
theorem zip_same {α β γ : Type} {f : α → γ} {g : β → γ} : ∀ (a : List α) (b : List β), a.map f = b.map g → ∀ z ∈ a.zip b, f z.1 = g z.2
  | [], _, _, z, h => by cases h
  | _ :: _, [], h, _, _ => by cases h
  | x :: a, y :: b, h, z, hz => by
    simp only [List.map_cons, List.cons.injEq] at h
    rw [List.zip_cons_cons] at hz
    rcases List.mem_cons.1 hz with rfl | hz
    · exact h.1
    · exact zip_same a b h.2 z hz
theorem map_inj_of {α β : Type} {f : α → β} : ∀ {l : List α}, (l.map f).Nodup → ∀ x ∈ l, ∀ y ∈ l, f x = f y → x = y
  | [], _, x, hx, _, _, _ => by cases hx
  | a :: l, h, x, hx, y, hy, e => by
    rw [List.map_cons, List.nodup_cons] at h
    rcases List.mem_cons.1 hx with hx1 | hx1 <;> rcases List.mem_cons.1 hy with hy1 | hy1
    · rw [hx1, hy1]
    · exact absurd (List.mem_map.2 ⟨y, hy1, by rw [← e, hx1]⟩) h.1
    · exact absurd (List.mem_map.2 ⟨x, hx1, by rw [e, hy1]⟩) h.1
    · exact map_inj_of h.2 x hx1 y hy1 e
theorem nodup_of_map {α β : Type} {f : α → β} : ∀ {l : List α}, (l.map f).Nodup → l.Nodup
  | [], _ => List.nodup_nil
  | a :: l, h => by
    rw [List.map_cons, List.nodup_cons] at h
    exact List.nodup_cons.2 ⟨fun hm => h.1 (List.mem_map.2 ⟨a, hm, rfl⟩), nodup_of_map h.2⟩
theorem fnd_no {k : KF} {T : List (KF × VF)} (h : k ∉ T.map (·.1)) : fnd k T = none := by
  unfold fnd
  rw [Option.map_eq_none_iff, List.find?_eq_none]
  intro p hp hc
  exact h (List.mem_map.2 ⟨p, hp, ((keyEq_iff _ _).1 hc).symm⟩)
abbrev ZE := MapEntry × (KF × VF)
structure Laid (Z : List ZE) (seen : Array Nat) (ds : List ZE) : Prop where
  sub : ∀ z ∈ ds, z ∈ Z
  seen : ds.map (·.1.born) = seen.toList
  nd : (ds.map (·.1.born)).Nodup
  ks : ND (ds.map (·.2))
structure Held (es : Array MapEntry) (clock : Nat) (Z : List ZE) : Prop where
  fst : Z.map (·.1) = es.toList
  ent : ∀ z ∈ Z, ent ksF vsF z.2 = (z.1.key, z.1.val)
  old : ∀ x ∈ es.toList, x.born < clock
  born : (es.toList.map (·.born)).Nodup
  ks : (Z.map (·.2.1)).Nodup
theorem Held.bornZ {es : Array MapEntry} {clock : Nat} {Z : List ZE} (h : Held es clock Z) : (Z.map (·.1.born)).Nodup := by
  have := h.born
  rw [← h.fst, List.map_map] at this
  exact this
theorem Laid.add {es : Array MapEntry} {clock : Nat} {Z ds : List ZE} {seen : Array Nat} (H : Held es clock Z) (h : Laid Z seen ds) {z : ZE} (hz : z ∈ Z) (hs : seen.contains z.1.born = false) :
    fnd z.2.1 (ds.map (·.2)) = none ∧ Laid Z (seen.push z.1.born) (ds ++ [z]) := by
  have hnb : z.1.born ∉ ds.map (·.1.born) := by
    rw [h.seen]
    intro hm
    rw [Array.contains_eq_mem] at hs
    simp only [decide_eq_false_iff_not] at hs
    exact hs (Array.mem_toList_iff.1 hm)
  have hnk : z.2.1 ∉ (ds.map (·.2)).map (·.1) := by
    intro hm
    rw [List.map_map] at hm
    obtain ⟨d, hd, e⟩ := List.mem_map.1 hm
    have := map_inj_of H.ks d (h.sub d hd) z hz e
    subst this
    exact hnb (List.mem_map.2 ⟨d, hd, rfl⟩)
  have hf := fnd_no hnk
  refine ⟨hf, fun y hy => ?_, ?_, ?_, ?_⟩
  · rcases List.mem_append.1 hy with hy | hy
    · exact h.sub y hy
    · simp only [List.mem_singleton] at hy; subst hy; exact hz
  · rw [List.map_append, h.seen, Array.toList_push]; rfl
  · rw [List.map_append, List.nodup_append]
    refine ⟨h.nd, by simp, fun x hx y hy => ?_⟩
    simp only [List.map_cons, List.map_nil, List.mem_singleton] at hy
    subst hy
    exact fun e => hnb (e ▸ hx)
  · rw [List.map_append]
    exact ND_add h.ks hf
theorem Laid.all {es : Array MapEntry} {clock : Nat} {Z ds : List ZE} {seen : Array Nat} (H : Held es clock Z) (h : Laid Z seen ds) (h0 : (leftOf es seen).size = 0) : (ds.map (·.2)).Perm (Z.map (·.2)) := by
  refine List.Perm.map _ ((List.perm_ext_iff_of_nodup (nodup_of_map h.nd) (nodup_of_map H.bornZ)).2 fun z => ⟨h.sub z, fun hz => ?_⟩)
  have hm : z.1 ∈ es.toList := by rw [← H.fst]; exact List.mem_map.2 ⟨z, hz, rfl⟩
  have hs := all_seen es seen h0 z.1 hm
  rw [Array.contains_eq_mem, decide_eq_true_eq] at hs
  have : z.1.born ∈ ds.map (·.1.born) := by rw [h.seen]; exact Array.mem_toList_iff.2 hs
  obtain ⟨d, hd, e⟩ := List.mem_map.1 this
  exact map_inj_of H.bornZ d (h.sub d hd) z hz e ▸ hd
section
variable {B : Nat → Prop} {w0 : Base} {es : Array MapEntry} {clock : Nat} {Z : List ZE}
abbrev Rcl (B : Nat → Prop) (w0 : Base) (σ : St) (ρ : Rho) (a : Act) (w : World) : Prop := R B w0 fCl.ntmps σ ρ a w
theorem hand_op {P : Program} {ops : Array Oper} {i : Nat} {o : Oper} {K : Act → World → Prop} {Q : Exit → Act → World → Prop} {a : Act} {w : World} {S : Value → World → Prop} (ho : ops[i]? = some o) (hg : o.guard = none) (hS : Gives P o a w S) (hK : ∀ v w', S v w' → K (a.put o.dst v) w') : wpOp P ops Q i K a w := by
  unfold wpOp
  rw [ho]
  simp only
  rw [if_pos (by simp [Region.wanted, hg])]
  exact .inl (hS K Q hK)
theorem look_in {α : Type} : ∀ {l : List (Nat × α)} {k : Nat} {x : α}, look l k = some x → (k, x) ∈ l
  | [], _, _, h => by cases h
  | (j, y) :: l, k, x, h => by
    simp only [look] at h
    by_cases e : j = k
    · subst e
      rw [Nat.beq_refl] at h
      cases h
      exact List.mem_cons_self
    · rw [beq_no e] at h
      exact List.mem_cons_of_mem _ (look_in h)
theorem wf_chk {p : Nat} {σ : St} (h : (σ.sl.all (fun q => q.2.lt σ.nx) && σ.hp.all (fun q => Nat.blt q.1 σ.nx && q.2.lt σ.nx)) = true) (hp : p ≤ σ.nx) : Wf p σ := by
  rw [Bool.and_eq_true, List.all_eq_true, List.all_eq_true] at h
  refine ⟨fun t s hs => h.1 _ (look_in hs), fun i o ho => ?_, hp⟩
  have := h.2 _ (look_in ho)
  rw [Bool.and_eq_true] at this
  exact ⟨blt_lt this.1, this.2⟩
theorem wf_s2 (hp : w0.pin = 2) (m i : Obj) (l : List (KF × VF)) : Wf w0.pin (s2 m i l) := wf_chk rfl (by rw [hp]; show (2 : Nat) ≤ _; simp [s0, s1, s2])
theorem wf_s1 (hp : w0.pin = 2) (m : Obj) (l : List (KF × VF)) : Wf w0.pin (s1 m l) := wf_chk rfl (by rw [hp]; show (2 : Nat) ≤ _; simp [s0, s1, s2])
theorem wf_s0 (hp : w0.pin = 2) (m : Obj) : Wf w0.pin (s0 m) := wf_chk rfl (by rw [hp]; show (2 : Nat) ≤ _; simp [s0, s1, s2])
theorem gc3 (m i : Obj) (l : List (KF × VF)) (b : Bool) (x : SV) : gcSt [0, 3, 17] 2 (st3 m i l x b) = some (s2 m i l) := by kernel_rfl
theorem ext_step (hp : w0.pin = 2) (b : Bool) {m i : Obj} {l : List (KF × VF)} {x : SV} {ρ : Rho} {a : Act} {w : World} {Q : Exit → Act → World → Prop} {K : Act → World → Prop}
    (hlt : x.lt 7 = true) (R1 : Rcl B w0 ⟨[(0, .ptr 0 0), (3, .ptr 2 0), (17, .ptr 3 0), (18, x)], (s2 m i l).hp, 7⟩ ρ a w) (rest : List Value) (hx : ∀ ρ, den ρ x = .tuple (Value.bool b :: rest).toArray)
    (hK : ∀ ρ' a' w', a'.eval (.tmp 19) = .bool b → Rcl B w0 (s2 m i l) ρ' a' w' → K a' w') : wpOp Try.prog ops7 Q 1 K a w := by
  have pin7 : w0.pin ≤ 7 := by rw [hp]; decide
  have h18 : a.eval (.tmp 18) = .tuple (Value.bool b :: rest).toArray := (R1.eval (.tmp 18) x rfl).trans (hx ρ)
  refine hand_op ops71 o71_g (S := fun v w' => v = .bool b ∧ w' = w) (Gives.value (v := .bool b) (w' := w) ?_ ⟨rfl, rfl⟩) ?_
  · unfold execOp
    simp only [o71_op, h18, Instr.extract]
    rfl
  · rintro v w' ⟨rfl, rfl⟩
    have hw1 : Wf w0.pin (⟨[(0, .ptr 0 0), (3, .ptr 2 0), (17, .ptr 3 0), (18, x)], (s2 m i l).hp, 7⟩ : St) := wf_chk (by
      show ((true && (true && (true && (x.lt 7 && true)))) && true) = true
      rw [hlt]; rfl) pin7
    have R2 := R.app R1 (hw1.fresh (Nat.le_refl _)) (made_pure (lo := 7) (hi := 7 + wide) (s := .v (.bool b)) R1.hr) (some 19) (by kernel_rfl) pin7
    have R3 : Rcl B w0 (st3 m i l x b) ρ (a.put (some 19) (.bool b)) w' := R2
    obtain ⟨_, h2⟩ := gcSt_ok (B := B) (w0 := w0) (n := fCl.ntmps) (by rw [hp]; exact Nat.le_refl _) (gc3 m i l b x)
    obtain ⟨ρ', R4⟩ := h2 _ _ _ R3
    rw [o71_d]
    exact hK ρ' _ _ (R3.eval (.tmp 19) (.v (.bool b)) rfl) R4
theorem next_step (hp : w0.pin = 2) (hm : Try.prog.follows .mixedOrders = true) (H : Held es clock Z) {seen : Array Nat} {ds : List ZE} (L : Laid Z seen ds) {ρ : Rho} {a : Act} {w : World} {Q : Exit → Act → World → Prop}
    (hR : Rcl B w0 (s2 (.map es clock) (.mapIter (some (w0.ρ 1).blk) clock seen clock) (ds.map (·.2))) ρ a w)
    (hdone : (leftOf es seen).size = 0 → ∀ ρ' a' w', Rcl B w0 (s2 (.map es clock) (.mapIter (some (w0.ρ 1).blk) clock seen clock) (ds.map (·.2))) ρ' a' w' → Q (.exit 0) a' w')
    (hmore : ∀ z ∈ Z, z.1 ∈ (leftOf es seen).toList → ∀ ρ' a' w', Laid Z (seen.push z.1.born) (ds ++ [z]) → Rcl B w0 (s2 (.map es clock) (.mapIter (some (w0.ρ 1).blk) clock (seen.push z.1.born) clock) ((ds ++ [z]).map (·.2))) ρ' a' w' → Q .normal a' w') :
    bL.wp Try.prog Q a w := by
  rw [loop_eq]
  refine wp_seq (wp_region ?_)
  rw [ops7s, wpOps_cons]
  have hw := wf_s2 hp (.map es clock) (.mapIter (some (w0.ρ 1).blk) clock seen clock) (ds.map (·.2))
  obtain ⟨i1, i2, i3⟩ := hR.hr.ok 3 _ rfl
  obtain ⟨m1, m2, m3⟩ := hR.hr.ok 1 _ rfl
  have hbm : (ρ 1).blk = (w0.ρ 1).blk := by rw [hR.pn 1 (by rw [hp]; decide)]
  have h17 : a.eval (.tmp 17) = .pointer (some ⟨(ρ 3).blk, 0, none⟩) := by
    have := hR.eval (.tmp 17) (.ptr 3 0) rfl
    rw [this]; simp only [den, i2, Nat.add_zero]
  rw [hbm] at m3
  have pin7 : w0.pin ≤ 7 := by rw [hp]; decide
  rcases run_next_at (P := Try.prog) w o70.type (ρ 3).blk (w0.ρ 1).blk clock clock seen es clock i3 m3 H.old (Nat.le_refl _) with ⟨h0, hrun⟩ | ⟨e, he, w1, hw1, hrun⟩
  · refine hand_op ops70 o70_g (S := fun v w' => v = .tuple #[.bool false] ∧ w' = w) (Gives.value (v := .tuple #[.bool false]) (w' := w) ?_ ⟨rfl, rfl⟩) ?_
    · unfold execOp
      simp only [o70_op, h17, hrun, Sem.run_bind, Result.andThen_ok, Sem.run_pure]
    · rintro v w' ⟨rfl, rfl⟩
      have R1 := R.app hR (hw.fresh (Nat.le_refl _)) (made_pure (lo := 7) (hi := 7 + wide) (s := .tup [.v (.bool false)]) hR.hr) (some 18) rfl pin7
      rw [wpOps_cons, o70_d]
      refine ext_step hp false (m := .map es clock) (i := .mapIter (some (w0.ρ 1).blk) clock seen clock) (l := ds.map (·.2)) (x := .tup [.v (.bool false)]) rfl R1 [] (fun ρ => rfl) fun ρ' a' w' h19 hR' => ?_
      exact wp_seq (wp_cond_false h19 (wp_exit (hdone h0 ρ' a' w' hR')))
  · obtain ⟨he1, he2⟩ := mem_left he
    have : e ∈ Z.map (·.1) := by rw [H.fst]; exact he1
    obtain ⟨z, hz, rfl⟩ := List.mem_map.1 this
    obtain ⟨hf, L2⟩ := L.add H hz he2
    obtain ⟨w2, hw2⟩ : ∃ w2, w2 = ChangeMaps.setBlock w1 (ρ 3).blk (.mapIter (some (w0.ρ 1).blk) clock (seen.push z.1.born) clock) := ⟨_, rfl⟩
    rw [← hw2] at hrun
    have hR1 : Rcl B w0 (s2 (.map es clock) (.mapIter (some (w0.ρ 1).blk) clock seen clock) (ds.map (·.2))) ρ a w1 := by
      rcases hw1 with rfl | rfl
      · exact hR
      · exact hR.drew
    obtain ⟨_, _, i4⟩ := hR1.hr.ok 3 _ rfl
    have hlt : (ρ 3).blk < w1.heap.size := (Array.getElem?_eq_some_iff.1 i4).1
    have hkv := H.ent z hz
    refine hand_op ops70 o70_g (S := fun v w' => v = .tuple #[.bool true, z.1.key, z.1.val] ∧ w' = w2) (Gives.value (v := .tuple #[.bool true, z.1.key, z.1.val]) (w' := w2) ?_ ⟨rfl, rfl⟩) ?_
    · unfold execOp
      simp only [o70_op, h17, hrun, Sem.run_bind, Result.andThen_ok, Sem.run_pure]
    · rintro v w' ⟨rfl, rfl⟩
      have hden : ∀ ρ : Rho, den ρ (.tup [.v (.bool true), .agg ((enc ksF z.2.1).map SV.v), .agg ((enc vsF z.2.2).map SV.v)]) = .tuple (Value.bool true :: [z.1.key, z.1.val]).toArray := by
        intro ρ
        have h1 := congrArg Prod.fst hkv
        have h2 := congrArg Prod.snd hkv
        simp only [ent] at h1 h2
        simp only [den, denL, map_v, h1, h2]
      have md := made_set (B := B) (ρ := ρ) (w := w1) (w' := w') (lo := 7) (hi := 7 + wide) (id := 3) (s := .tup [.v (.bool true), .agg ((enc ksF z.2.1).map SV.v), .agg ((enc vsF z.2.2).map SV.v)])
        (o' := .raw (.mapIter (some (w0.ρ 1).blk) clock (seen.push z.1.born) clock)) hR1.hr (.inl (by decide)) (by rfl) rfl rfl i1 (by rw [hw2]; rfl) (by rw [hw2]; rfl) (by rw [hw2]; rfl) (by rw [hw2]; simp [ChangeMaps.setBlock])
        (fun b hb => by rw [hw2]; simp [ChangeMaps.setBlock, Array.getElem?_setIfInBounds, Ne.symm hb]) ⟨i1, i2, by rw [hw2]; simp [ChangeMaps.setBlock, Array.getElem?_setIfInBounds, hlt]⟩
      have R1 := R.app hR1 (hw.fresh (Nat.le_refl _)) md (some 18) (by kernel_rfl) pin7
      rw [hden] at R1
      rw [wpOps_cons, o70_d]
      refine ext_step hp true (m := .map es clock) (i := .mapIter (some (w0.ρ 1).blk) clock (seen.push z.1.born) clock) (l := ds.map (·.2)) (x := .tup [.v (.bool true), .agg ((enc ksF z.2.1).map SV.v), .agg ((enc vsF z.2.2).map SV.v)]) rfl R1 [z.1.key, z.1.val] hden fun ρ' a' w' h19 hR' => ?_
      refine wp_seq (wp_cond_true h19 (wp_skip ?_))
      have hE : Sound (effX Try.prog CCl (entX (ks := ksF) (vs := vsF) (.mapIter (some (w0.ρ 1).blk) clock (seen.push z.1.born) clock) (.map es clock) z.2.1 z.2.2)) Try.prog B w0 fCl.ntmps :=
        ent_sound (by rw [hp]; decide) rfl (CCl_ok B) he1 H.born hkv
      refine chunk (F := 1) (S := [0, 3, 17]) (p := 2) hm hE (cn0_ok B w0 _) (by rw [hp]; exact Nat.le_refl _) (σ' := s2 (.map es clock) (.mapIter (some (w0.ρ 1).blk) clock (seen.push z.1.born) clock) ((ds ++ [z]).map (·.2))) ?_ (wf_s2 hp _ _ _) hR' (fun ρ2 a2 w2 _ hR2 => hmore z hz he ρ2 a2 w2 L2 hR2)
      have hk := cK_eq (.map es clock) (.mapIter (some (w0.ρ 1).blk) clock (seen.push z.1.born) clock) z.2.1 z.2.2 (ds.map (·.2))
      rw [cdec_true.2 rfl, cdec_true.2 rfl, sel_t, sel_t, mOk_fx _ L.ks, mFind_fx, hf] at hk
      rw [List.map_append]
      exact hk
theorem loop_run (hp : w0.pin = 2) (hm : Try.prog.follows .mixedOrders = true) (H : Held es clock Z) {Q : Exit → Act → World → Prop}
    (hQ : ∀ ds seen, Laid Z seen ds → (leftOf es seen).size = 0 → ∀ ρ' a' w', Rcl B w0 (s2 (.map es clock) (.mapIter (some (w0.ρ 1).blk) clock seen clock) (ds.map (·.2))) ρ' a' w' → Q (.exit 0) a' w') :
    ∀ (n : Nat) (seen : Array Nat) (ds : List ZE) (ρ : Rho) (a : Act) (w : World), Laid Z seen ds → (leftOf es seen).size < n → Rcl B w0 (s2 (.map es clock) (.mapIter (some (w0.ρ 1).blk) clock seen clock) (ds.map (·.2))) ρ a w → Code.rounds Try.prog bL Q n a w
  | 0, seen, ds, ρ, a, w, _, hn, _ => absurd hn (Nat.not_lt_zero _)
  | n + 1, seen, ds, ρ, a, w, L, hn, hR => by
    rw [rounds_succ]
    refine next_step hp hm H L hR (fun h0 ρ' a' w' hR' => hQ ds seen L h0 ρ' a' w' hR') fun z hz he ρ' a' w' L' hR' => ?_
    have hs := left_shrinks es seen z.1 he
    exact loop_run hp hm H hQ n _ _ ρ' a' w' L' (by omega) hR'
def KF2 (e : Ex) (σ : St) : Option St := match e with
  | .ret => gcSt [2] 2 σ
  | _ => none
def sF (m i : Obj) (l : List (KF × VF)) : St := ⟨[(2, .ptr 2 0)], [(0, .ro 47 [.map 1]), (1, .raw m), (2, .cells 47 [.map 3]), (3, .mapo ksF vsF l)], 6⟩
theorem c10_eq (m i : Obj) (l : List (KF × VF)) : ev (eff Try.prog CCl) fCl.ntmps cn0 1 b5 (s2 m i l) KF2 = some (sF m i l) := by kernel_rfl
theorem res_eq (m i : Obj) (l : List (KF × VF)) : resS Try.prog (sF m i l) fCl.results.toList = some [.ptr 2 0] := by kernel_rfl
theorem kg_eq (l : List (KF × VF)) : KG (gcSt [0] 2) 2 (.ptr 2 0) [(0, .ro 47 [.map 1]), (1, .mapo ksF vsF l), (2, .cells 47 [.map 3]), (3, .mapo ksF vsF l)] = some (.ptr 2 0, [(0, .ro 47 [.map 1]), (1, .mapo ksF vsF l), (2, .cells 47 [.map 3]), (3, .mapo ksF vsF l)]) := by kernel_rfl
end
theorem clone_call (l : List (KF × VF)) (hl : ND l) (B : Nat → Prop) (ρ : Rho) (w : World) (hr : HR B ρ (hcT l) w) (up : ∀ b, w.heap.size ≤ b → B b) :
    Calls Try.prog 14 (denL ρ [.ptr 0 0]).toArray w fun e w' => ∃ ρ' s h', e = .returned (den ρ' s) ∧ KG (gcSt [0] 2) 2 s h' = some (.ptr 2 0, [(0, .ro 47 [.map 1]), (1, .mapo ksF vsF l), (2, .cells 47 [.map 3]), (3, .mapo ksF vsF l)]) ∧ HR B ρ' h' w' ∧ Keeps B w w' ∧ (∀ i, i < 2 → ρ' i = ρ i) := by
  obtain ⟨n1, n2, es, clock, n3, n4, n5, n6⟩ := hr.ok 1 _ rfl
  obtain ⟨l', hl', hes⟩ := perm_pre n4 l rfl
  have hlen : es.toList.length = l'.length := by have := congrArg List.length hes; rw [List.length_map] at this; exact this.trans (List.length_map _)
  obtain ⟨Z, hZ⟩ : ∃ Z, Z = es.toList.zip l' := ⟨_, rfl⟩
  have Z1 : Z.map (·.1) = es.toList := by rw [hZ]; exact List.map_fst_zip (by omega)
  have Z2 : Z.map (·.2) = l' := by rw [hZ]; exact List.map_snd_zip (by omega)
  have H : Held es clock Z := by
    refine ⟨Z1, fun z hz => ?_, n5, n6, ?_⟩
    · rw [hZ] at hz
      exact (zip_same es.toList l' hes z hz).symm
    · have h1 : (l'.map (·.1)).Nodup := ((hl'.map (fun p : KF × VF => p.1)).nodup_iff).2 hl
      rw [← Z2, List.map_map] at h1
      exact h1
  have hr0 : HR B ρ [(0, .ro 47 [.map 1]), (1, .raw (.map es clock))] w := HR_swap (o' := .raw (.map es clock)) hr (i := 1) rfl rfl rfl ⟨n1, n2, n3⟩
  obtain ⟨w0, hw0⟩ : ∃ w0 : Base, w0 = ⟨w, ρ, 2⟩ := ⟨_, rfl⟩
  have hp : w0.pin = 2 := by rw [hw0]
  have hbody : Try.f14.body = some (bodyOf fCl) := by kernel_rfl
  refine calls_of_wp Try.func14 hbody ?_
  rw [code_eq]
  have hE : Sound (eff Try.prog CCl) Try.prog B w0 fCl.ntmps := eff_sound (CCl_ok B)
  have hE6 : Sound (effX Try.prog CCl (rngX Try.prog (w0.ρ 1).blk es clock)) Try.prog B w0 fCl.ntmps := rng_sound (by rw [hp]; decide) rfl (CCl_ok B)
  have hcn := cn0_ok B w0 fCl.ntmps
  have hp2 : w0.pin ≤ 2 := by rw [hp]; exact Nat.le_refl _
  have hR0 : Rcl B w0 (s0 (.map es clock)) ρ { tmps := (denL ρ [.ptr 0 0]).toArray ++ Array.replicate (fCl.ntmps - (denL ρ [.ptr 0 0]).toArray.size) undef, defers := [] } w := by
    refine ⟨by simp [denL], rfl, fun t s hs => ?_, hr0, by rw [hw0]; exact up, by rw [hw0]; exact Keeps.refl _ _, fun i hi => by rw [hw0]⟩
    have h1 := look_in hs
    simp only [s0, List.mem_singleton, Prod.mk.injEq] at h1
    obtain ⟨rfl, rfl⟩ := h1
    refine ⟨by decide +kernel, ?_⟩
    show ((denL ρ [.ptr 0 0]).toArray ++ _).getD 0 undef = _
    rw [Array.getD_eq_getD_getElem?, Array.getElem?_append_left (by simp [denL])]
    rfl
  refine wp_seq (chunk (F := 1) (S := [0]) (p := 2) (σ := s0 (.map es clock)) (σ' := s0 (.map es clock)) (c := seqL b0) mixed hE hcn hp2 (c0_eq (.map es clock)) (wf_s0 hp _) hR0 fun ρ1 a1 w1 _ hR1 => ?_)
  refine wp_seq (chunk (F := 1) (S := [0]) (p := 2) (σ := s0 (.map es clock)) (σ' := s0 (.map es clock)) (c := seqL b1) mixed hE hcn hp2 (c1_eq (.map es clock)) (wf_s0 hp _) hR1 fun ρ2 a2 w2 _ hR2 => ?_)
  refine wp_seq (chunk (F := 1) (S := [0]) (p := 2) (σ := s0 (.map es clock)) (σ' := s0 (.map es clock)) (c := seqL b2) mixed hE hcn hp2 (c2_eq (.map es clock)) (wf_s0 hp _) hR2 fun ρ3 a3 w3 _ hR3 => ?_)
  refine wp_seq (chunk (F := 1) (S := [0, 3]) (p := 2) (σ := s0 (.map es clock)) (σ' := s1 (.map es clock) []) (c := seqL b3) mixed hE hcn hp2 (c3_eq (.map es clock)) (wf_s0 hp _) hR3 fun ρ4 a4 w4 _ hR4 => ?_)
  refine wp_seq (wp_seq (chunk (F := 1) (S := [0, 3, 17]) (p := 2) (c := seqL (seqL b4)) (σ := s1 (.map es clock) []) (σ' := s2 (.map es clock) (.mapIter (some (w0.ρ 1).blk) clock #[] clock) (([] : List ZE).map (·.2))) mixed hE6 hcn hp2 ?_ (wf_s1 hp _ _) hR4 fun ρ5 a5 w5 _ hR5 => ?_))
  · rw [c6_eq, cdec_true.2 rfl]; rfl
  · refine wp_block (wp_loop_rounds ((leftOf es #[]).size + 1) ?_)
    refine loop_run hp mixed H (fun ds seen L h0 ρ6 a6 w6 hR6 => ?_) _ #[] [] ρ5 a5 w5 ⟨by simp, rfl, by simp, List.nodup_nil⟩ (Nat.lt_succ_self _) hR5
    show b5.wp _ _ _ _
    refine wp_mono (ev_sound mixed hE hcn b5 _ KF2 _ (c10_eq _ _ _) ρ6 a6 w6 (wf_s2 hp _ _ _) hR6) ?_
    rintro e' a' w' ⟨e, s, ρ', rfl, hk, hw', hR'⟩
    cases e with
    | normal => cases hk
    | exit id => cases hk
    | ret =>
      obtain ⟨_, h2⟩ := gcSt_ok (B := B) (w0 := w0) (n := fCl.ntmps) hp2 hk
      obtain ⟨ρ7, hR7⟩ := h2 _ _ _ hR'
      have hperm : (ds.map (·.2)).Perm l := by
        have := L.all H h0
        rw [Z2] at this
        exact this.trans hl'
      have n1' := hR7.hr.ok 1 _ rfl
      have n3' := hR7.hr.ok 3 _ rfl
      obtain ⟨q1, q2, es2, clock2, q3, q4, q5⟩ := n3'
      have g1 := HR_swap (o' := .mapo ksF vsF l) hR7.hr (i := 1) rfl rfl rfl ⟨n1'.1, n1'.2.1, es, clock, n1'.2.2, n4, n5, n6⟩
      have g2 := HR_swap (o' := .mapo ksF vsF l) g1 (i := 3) rfl rfl rfl ⟨q1, q2, es2, clock2, q3, q4.trans (hperm.map _), q5⟩
      refine ⟨hR7.df, _, results_run hR7 (res_eq _ _ _), ρ7, .ptr 2 0, _, rfl, kg_eq l, g2, ?_, fun i hi => ?_⟩
      · have := hR7.ks; rw [hw0] at this; exact this
      · rw [hR7.pn i (by rw [hp]; exact hi), hw0]
def tabN (lo j : Nat) (l : List (KF × VF)) : List (Nat × AObj) := [(j, .mapo ksF vsF l), (lo, .cells 47 [.map (lo + 1)]), (lo + 1, .mapo ksF vsF l)]
noncomputable def cCloneT : Con := fun args lo => match args with
  | [.ptr id 0] => tabR id fun j l => .br (cdec (ND l)) (.ret ⟨.ptr lo 0, tabN lo j l⟩) .fail
  | _ => .fail
theorem cCloneT_ok (B : Nat → Prop) : ConOk Try.prog B 14 cCloneT := by
  intro args ρ h w lo out ids hr hrh hfr hfa up
  unfold cCloneT at hr
  split at hr
  · rename_i id
    obtain ⟨j, l, ids', o, ho, ho', hj, hr⟩ := tabR_run hr
    obtain ⟨hl, hr⟩ := br_run (h := h) hr
    have hl : ND l := cdec_true.1 hl
    cases hr
    obtain ⟨m, hm⟩ : ∃ m : Nat → Nat, m = fun i => if i = 0 then id else if i = 1 then j else lo + wide := ⟨_, rfl⟩
    have m0 : m 0 = id := by rw [hm]; rfl
    have m1 : m 1 = j := by rw [hm]; rfl
    have hne : id ≠ j := fun e => by subst e; rw [ho] at hj; rcases ho' with h | h <;> rw [h] at hj <;> cases hj
    have look01 : ∀ i oc, look (hcT l) i = some oc → (i = 0 ∧ oc = .ro 47 [.map 1]) ∨ (i = 1 ∧ oc = .mapo ksF vsF l) := by
      intro i oc hi
      have := look_in hi
      simp only [hcT, List.mem_cons, Prod.mk.injEq, List.not_mem_nil, or_false] at this
      exact this
    have := con_ownW (B := B) Try.func14 (by kernel_rfl) (by kernel_rfl : fCl.body = some (bodyOf fCl)) (p := 2) [.ptr 0 0] m (hcT l) (.ptr 2 0) _ (gc_GOk 2) ρ h w
      (fun B2 ρc hrc up2 => clone_call l hl B2 ρc w hrc up2) lo hrh hfr up
      (fun i oc hi => by rcases look01 i oc hi with ⟨rfl, rfl⟩ | ⟨rfl, rfl⟩ <;> exact ⟨by decide, rfl⟩)
      (fun i hi => by
        match i, hi with
        | 0, _ => rw [m0]; exact (hfr id o ho).1
        | 1, _ => rw [m1]; exact (hfr j _ hj).1)
      (fun i oc hi => by
        rcases look01 i oc hi with ⟨rfl, rfl⟩ | ⟨rfl, rfl⟩
        · rw [m0]
          refine ⟨o, ho, .reads ?_⟩
          rcases ho' with rfl | rfl
          · exact .inl (by simp only [renL, ren, m1])
          · exact .inr (by simp only [renL, ren, m1])
        · rw [m1]; exact ⟨_, hj, .mapo _ _ _⟩)
      (fun i i' oc oc' hi hi' hii _ => by
        rcases look01 i oc hi with ⟨rfl, rfl⟩ | ⟨rfl, rfl⟩ <;> rcases look01 i' oc' hi' with ⟨rfl, rfl⟩ | ⟨rfl, rfl⟩
        · exact absurd rfl hii
        · rw [m0, m1]; exact hne
        · rw [m0, m1]; exact fun e => hne e.symm
        · exact absurd rfl hii)
      (fun i oc hi hown => by
        rcases look01 i oc hi with ⟨rfl, rfl⟩ | ⟨rfl, rfl⟩
        · cases hown
        · exact ⟨_, rfl, .inl rfl⟩)
    have e1 : denL ρ (renL m [.ptr 0 0]) = denL ρ [.ptr id 0] := by
      simp only [renL, ren, m0]
    rw [e1] at this
    have e3 : updGo (mr m 2 lo) [(0, .ro 47 [.map 1]), (1, .mapo ksF vsF l), (2, .cells 47 [.map 3]), (3, .mapo ksF vsF l)] [(0, .ro 47 [.map 1]), (1, .mapo ksF vsF l), (2, .cells 47 [.map 3]), (3, .mapo ksF vsF l)] = tabN lo j l := by
      show (mr m 2 lo 1, renO (mr m 2 lo) (.mapo ksF vsF l)) :: _ = _
      rw [show mr m 2 lo 1 = m 1 from rfl, m1]
      rfl
    rw [e3] at this
    exact this
  · cases hr
end Go.Proofs.Ytogmjkmnknaieaa.Ax
namespace Go.Proofs.Ytogmjkmnknaieaa.Ax
open Go Go.RowKit Go.Proofs.Ytogmjkmnknaieaa.Print
set_option linter.unusedVariables false
set_option linter.unusedSimpArgs false
noncomputable def CSw : FuncId → Option Con
  | 14 => some cCloneT
  | 11 => some cROfT
  | 12 => some cRCvT
  | 15 => some (autoP true CR1 Try.f15)
  | g => COw g
theorem CSw_ok : ∀ B' g φ, CSw g = some φ → ConOk Try.prog B' g φ := by
  intro B' g φ h
  unfold CSw at h
  split at h
  · cases h; exact cCloneT_ok B'
  · cases h; exact cROfT_ok B'
  · cases h; exact cRCvT_ok B'
  · cases h; exact autoP_ok true CR1_ok Try.func15 (by kernel_rfl) (by kernel_rfl) B'
  · exact COw_ok B' _ φ h
def TSw : TbF
  | 8 => some ([0, 1, 2, 3, 9, 10, 11], [(10, 29, stR)])
  | _ => none
def HSw (l : List RF) (c : ByteArray) (d a : Int) (T : List (KF × VF)) (W : List RF) (i : Int) : St :=
  ⟨[(0, .all 0), (1, .v (.string c)), (2, vi d), (3, vi a), (9, .ptr 1 0), (10, .all 2), (11, vi i)], [(0, .arg stR l), (1, .cells 47 [.map 3]), (2, .row 29 stR W), (3, .mapo ksF vsF T)], 5⟩
noncomputable def LSw (F kk : Nat) (l : List RF) (c : ByteArray) (d a : Int) (T : List (KF × VF)) (W : List RF) (i : Int) : OB := loopAt (eff Try.prog CSw) Try.f4.ntmps (cnRow 1 TSw) F Try.prog Try.f4 (KX [qBool]) [.R, .R, .R, .R, .R, .L, .R, .D] kk (HSw l c d a T W i)
def rfT (W : List RF) (x : RF) (K : List RF → Int → OB) : OB :=
  sel (!namedV x.1) (K W 40) (sel (!goodB x.2.1 x.2.2.1 x.2.2.2.1) (K W 2) (sel (x.2.1 != 2) (K W 2) (sel (decide (x.2.2.2.2.1 < 1)) (K W 2) (sel (decide (1099511627776 < x.2.2.2.2.1)) (K W 2) (sel (decide (x.2.2.2.2.2 < 1)) (K W 2) (sel (decide (1099511627776 < x.2.2.2.2.2)) (K W 2)
    (obnd (capR W (some (findV W (keyOf x), ()))) fun z => sel (decide (0 ≤ z.1)) (K W 50) (sel (Nat.ble (0 + W.length) 1000000000) (sel (Nat.ble (W.length + 1) 1000000000) (K (W ++ [x]) 0) none) none))))))))
noncomputable def rndSw (R : List (KF × VF) → List RF → Int → OB) (l : List RF) (c : ByteArray) (d a : Int) (T : List (KF × VF)) (W : List RF) (i : Int) : OB :=
  sel (decide (i ≤ (l.length : Int)))
    (obnd (rateV c d T) fun z1 => obnd (ofT W c d) fun z2 => obnd (convV c d a T) fun z3 => obnd (rcvT W c d a) fun z4 =>
      sel (z1.1 != z2.1) noT (sel (z1.2.1 != z2.2.1) noT (sel (z1.2.2 != z2.2.2.1) noT (sel (z3.1 != z4.1) noT (sel (z3.2 != z4.2.1) noT (sel ((T.length : Int) != (W.length : Int)) noT
        (sel (i == (l.length : Int)) yesT (idxP l i (sel (decide ((100 : Int) < ((rAt l i).1.size : Int))) yesT (sel (cdec (ND T)) (idxP l i (idxP l i (idxP l i (idxP l i
          (obnd (setV (keyOf (rAt l i)) (valOf (rAt l i)).1 (valOf (rAt l i)).2 T) fun z => sel ((T.length : Int) != (W.length : Int)) noT
            (idxP l i (rfT W (rAt l i) fun W' e => sel (z.1 != e) noT (R z.2 W' (IT.wrap (i + 1))))))))))
          none))))))))))
    yesT
theorem LSw_eq (F kk : Nat) (l : List RF) (c : ByteArray) (d a : Int) (T : List (KF × VF)) (W : List RF) (i : Int) : LSw F (kk + 1) l c d a T W i = rndSw (fun T W i => LSw F kk l c d a T W i) l c d a T W i := by kernel_rfl
theorem sets_law (F : Nat) (l : List RF) (c : ByteArray) (d a : Int) : evX Try.prog CSw (cnRow 1 TSw) F Try.f4 [qRows, qStr, qInt, qInt] [qBool] (l, c, d, a, ()) =
    sel (decide ((60 : Int) < (l.length : Int))) yesT (sel (decide ((100 : Int) < (c.size : Int))) yesT (LSw F F l c d a [] [] 0)) := by kernel_rfl
end Go.Proofs.Ytogmjkmnknaieaa.Ax
namespace Go.Proofs.Ytogmjkmnknaieaa.Print
open Go Go.RowKit Go.Proofs.YtogmjkmnknaieaaW.PrintWords Go.Proofs.Ytogmjkmnknaieaa.Ax
set_option linter.unusedVariables false
def rateTT (x : S29) : RF := (x.f0, x.f1.f0, x.f1.f1, x.f1.f2, x.f2, x.f3)
theorem perT_open {w : World} {x : S27} {c : List Value} (h : k27.K w x c) : c = [.int .i64 x.f0, .int .i64 x.f1, .int .i64 x.f2] := by
  obtain ⟨_, _, rfl, rfl, _, _, rfl, rfl, rfl⟩ := h
  rfl
theorem rateT_enc : ∀ (w : World) (x : S29) (c : List Value), k29.K w x c → c = enc stR (rateTT x) := by
  intro w x c h
  obtain ⟨_, _, rfl, rfl, _, _, rfl, h1, _, _, rfl, rfl, rfl⟩ := h
  rw [perT_open h1]
  rfl
end Go.Proofs.Ytogmjkmnknaieaa.Print
namespace Go.Proofs.Ytogmjkmnknaieaa.Ax
open Go Go.RowKit Go.Proofs.Ytogmjkmnknaieaa.Print
set_option linter.unusedVariables false
set_option linter.unusedSimpArgs false
def tabOf (W : List RF) : List (KF × VF) := W.map fun x => (keyOf x, valOf x)
theorem tab_len (W : List RF) : ((tabOf W).length : Int) = (W.length : Int) := by unfold tabOf; rw [List.length_map]
def NDW (W : List RF) : Prop := (W.map keyOf).Nodup
theorem ND_tab {W : List RF} (h : NDW W) : ND (tabOf W) := by
  unfold ND tabOf
  rw [List.map_map]
  exact h
theorem keyEq_comm (x y : KF) : keyEq x y = keyEq y x := by
  rw [Bool.eq_iff_iff, keyEq_iff, keyEq_iff]
  exact ⟨fun h => h.symm, fun h => h.symm⟩
theorem find_both (k : KF) : ∀ (W : List RF) (i : Nat), (findFrom k W i < 0 ∧ fnd k (tabOf W) = none) ∨ ∃ j x, j < W.length ∧ findFrom k W i = (i : Int) + j ∧ W[j]? = some x ∧ fnd k (tabOf W) = some (valOf x)
  | [], i => .inl ⟨by simp [findFrom], rfl⟩
  | x :: W, i => by
    rw [findFrom_cons]
    unfold tabOf fnd
    rw [List.map_cons, List.find?_cons]
    show _ ∨ _
    rw [keyEq_comm k]
    cases hk : keyEq (keyOf x) k with
    | true => exact .inr ⟨0, x, by simp, by simp, by simp, rfl⟩
    | false =>
      have := find_both k W (i + 1)
      unfold tabOf fnd at this
      have hc : ((i + 1 : Nat) : Int) = (i : Int) + 1 := by omega
      rw [hc] at this
      rcases this with ⟨h1, h2⟩ | ⟨j, y, h1, h2, h3, h4⟩
      · exact .inl ⟨h1, h2⟩
      · exact .inr ⟨j + 1, y, by simp; omega, by rw [show ((j + 1 : Nat) : Int) = (j : Int) + 1 by omega]; simp only [cond_false]; omega, by simpa using h3, h4⟩
theorem idx_in {α : Type} {W : List RF} {j : Nat} {x : RF} (hj : W[j]? = some x) (y : Option α) : idxP W (0 + (j : Int)) y = y := by
  have hlt := (List.getElem?_eq_some_iff.1 hj).1
  rw [Int.zero_add]
  exact idxP_ok hlt y
theorem rAt_in {W : List RF} {j : Nat} {x : RF} (hj : W[j]? = some x) : rAt W (0 + (j : Int)) = x := by
  unfold rAt
  rw [Int.zero_add, Int.toNat_natCast]
  unfold List.getD
  rw [hj]
  rfl
theorem cap_in {α : Type} {W : List RF} (h : W.length ≤ 1000) (x : Option α) : capR W x = x := by
  unfold capR
  rw [Nat.ble_eq_true_of_le h]; rfl
theorem rate_same (W : List RF) (c : ByteArray) (d : Int) (hN : NDW W) (hl : W.length ≤ 1000) : ∃ x : Int × Int × Int, rateV c d (tabOf W) = some x ∧ ofT W c d = some (x.1, x.2.1, x.2.2, ()) := by
  unfold rateV ofT
  cases c.toList == ([] : List UInt8) with
  | true => exact ⟨_, rfl, rfl⟩
  | false =>
    cases namedV c with
    | false => exact ⟨_, rfl, rfl⟩
    | true =>
      simp only [sel_f, Bool.not_true]
      cases (ofV d 2).2.2.2 != 0 with
      | true => exact ⟨_, rfl, rfl⟩
      | false =>
        simp only [sel_f]
        rw [mOk_fx _ (ND_tab hN), sel_t, mFind_fx, cap_in hl, obnd_s]
        rcases find_both (c, (ofV d 2).1, (ofV d 2).2.1, (ofV d 2).2.2.1) W 0 with ⟨h1, h2⟩ | ⟨j, x, h1, h2, h3, h4⟩
        · rw [h2]
          have h1 : findV W (c, (ofV d 2).1, (ofV d 2).2.1, (ofV d 2).2.2.1) < 0 := h1
          rw [decide_eq_true h1]
          exact ⟨_, rfl, rfl⟩
        · rw [h4]
          have h2 : findV W (c, (ofV d 2).1, (ofV d 2).2.1, (ofV d 2).2.2.1) = 0 + (j : Int) := h2
          rw [h2, decide_eq_false (by omega), sel_f, idx_in h3, idx_in h3, rAt_in h3]
          exact ⟨_, rfl, rfl⟩
theorem conv_same (W : List RF) (c : ByteArray) (d a : Int) (hN : NDW W) (hl : W.length ≤ 1000) : ∃ x : Int × Int, convV c d a (tabOf W) = some x ∧ rcvT W c d a = some (x.1, x.2, ()) := by
  unfold convV rcvT ofT
  cases c.toList == ([] : List UInt8) with
  | true => exact ⟨_, rfl, rfl⟩
  | false =>
    cases namedV c with
    | false => exact ⟨_, rfl, rfl⟩
    | true =>
      simp only [sel_f, Bool.not_true]
      cases he : (ofV d 2).2.2.2 != 0 with
      | true =>
        refine ⟨_, rfl, ?_⟩
        rw [sel_t, obnd_s, he]
        rfl
      | false =>
        simp only [sel_f]
        rw [mOk_fx _ (ND_tab hN), sel_t, mFind_fx, cap_in hl, obnd_s]
        rcases find_both (c, (ofV d 2).1, (ofV d 2).2.1, (ofV d 2).2.2.1) W 0 with ⟨h1, h2⟩ | ⟨j, x, h1, h2, h3, h4⟩
        · rw [h2]
          have h1 : findV W (c, (ofV d 2).1, (ofV d 2).2.1, (ofV d 2).2.2.1) < 0 := h1
          rw [decide_eq_true h1]
          exact ⟨_, rfl, rfl⟩
        · rw [h4]
          have h2 : findV W (c, (ofV d 2).1, (ofV d 2).2.1, (ofV d 2).2.2.1) = 0 + (j : Int) := h2
          rw [h2, decide_eq_false (by omega), sel_f, idx_in h3, idx_in h3, rAt_in h3]
          exact ⟨_, rfl, rfl⟩
theorem set_same (W : List RF) (x : RF) (hN : NDW W) (hl : W.length ≤ 900) (K : List RF → Int → OB) : ∃ W' e, setP (keyOf x) (valOf x).1 (valOf x).2 (tabOf W) = (e, tabOf W') ∧ rfT W x K = K W' e ∧ NDW W' ∧ W'.length ≤ W.length + 1 := by
  unfold setP rfT
  have e1 : (keyOf x).1 = x.1 := rfl
  have e2 : (keyOf x).2.1 = x.2.1 := rfl
  have e3 : (keyOf x).2.2.1 = x.2.2.1 := rfl
  have e4 : (keyOf x).2.2.2 = x.2.2.2.1 := rfl
  have e5 : (valOf x).1 = x.2.2.2.2.1 := rfl
  have e6 : (valOf x).2 = x.2.2.2.2.2 := rfl
  rw [e1, e2, e3, e4, e5, e6]
  cases namedV x.1 with
  | false => exact ⟨W, 40, rfl, rfl, hN, by omega⟩
  | true =>
    rw [if_neg (by simp)]
    simp only [Bool.not_true, sel_f]
    cases goodB x.2.1 x.2.2.1 x.2.2.2.1 with
    | false => exact ⟨W, 2, by rw [if_pos (.inl rfl)], rfl, hN, by omega⟩
    | true =>
      simp only [Bool.not_true, sel_f]
      by_cases h2 : x.2.1 = 2
      · rw [show (x.2.1 != 2) = false from by simp [h2], sel_f]
        by_cases h3 : x.2.2.2.2.1 < 1
        · exact ⟨W, 2, by rw [if_pos (by omega)], by rw [decide_eq_true h3]; rfl, hN, by omega⟩
        · rw [decide_eq_false h3, sel_f]
          by_cases h4 : 1099511627776 < x.2.2.2.2.1
          · exact ⟨W, 2, by rw [if_pos (by omega)], by rw [decide_eq_true h4]; rfl, hN, by omega⟩
          · rw [decide_eq_false h4, sel_f]
            by_cases h5 : x.2.2.2.2.2 < 1
            · exact ⟨W, 2, by rw [if_pos (by omega)], by rw [decide_eq_true h5]; rfl, hN, by omega⟩
            · rw [decide_eq_false h5, sel_f]
              by_cases h6 : 1099511627776 < x.2.2.2.2.2
              · exact ⟨W, 2, by rw [if_pos (by omega)], by rw [decide_eq_true h6]; rfl, hN, by omega⟩
              · rw [decide_eq_false h6, sel_f, if_neg (by simp [h2]; omega), cap_in (by omega), obnd_s]
                rcases find_both (keyOf x) W 0 with ⟨f1, f2⟩ | ⟨j, y, f1, f2, f3, f4⟩
                · rw [f2]
                  have f1 : findV W (keyOf x) < 0 := f1
                  refine ⟨W ++ [x], 0, ?_, ?_, ?_, by simp⟩
                  · show (_, _) = (_, _)
                    unfold tabOf
                    rw [List.map_append]; rfl
                  · rw [decide_eq_false (by omega), sel_f, Nat.ble_eq_true_of_le (by omega), sel_t, Nat.ble_eq_true_of_le (by omega), sel_t]
                  · have hn := fnd_none f2
                    unfold NDW at hN ⊢
                    rw [List.map_append, List.nodup_append]
                    refine ⟨hN, by simp, fun u hu v hv => ?_⟩
                    simp only [List.map_cons, List.map_nil, List.mem_singleton] at hv
                    subst hv
                    intro e
                    subst e
                    exact hn (by unfold tabOf; rw [List.map_map]; exact hu)
                · rw [f4]
                  have f2 : findV W (keyOf x) = 0 + (j : Int) := f2
                  exact ⟨W, 50, rfl, by rw [f2, decide_eq_true (by omega)]; rfl, hN, by omega⟩
      · rw [show (x.2.1 != 2) = true from by simpa using h2, sel_t]
        exact ⟨W, 2, by rw [if_pos (.inr (.inl h2))], rfl, hN, by omega⟩
theorem ne_self (x : Int) : (x != x) = false := by simp
theorem sets_run (F : Nat) (l : List RF) (c : ByteArray) (d a : Int) (hl : l.length ≤ 60) : ∀ (n i kk : Nat) (W : List RF), i + n = l.length → n < kk → NDW W → W.length ≤ i → LSw F kk l c d a (tabOf W) W i = yesT := by
  intro n
  induction n with
  | zero =>
    intro i kk W hi hk hN hW
    obtain ⟨k, rfl⟩ : ∃ k, kk = k + 1 := ⟨kk - 1, by omega⟩
    obtain ⟨x, r1, r2⟩ := rate_same W c d hN (by omega)
    obtain ⟨y, s1, s2⟩ := conv_same W c d a hN (by omega)
    rw [LSw_eq]
    unfold rndSw
    rw [decide_eq_true (by omega), sel_t, r1, obnd_s, r2, obnd_s, s1, obnd_s, s2, obnd_s]
    simp only [ne_self, sel_f, tab_len]
    rw [show ((i : Int) == (l.length : Int)) = true from by simp; omega]
    rfl
  | succ n ih =>
    intro i kk W hi hk hN hW
    obtain ⟨k, rfl⟩ : ∃ k, kk = k + 1 := ⟨kk - 1, by omega⟩
    obtain ⟨x, r1, r2⟩ := rate_same W c d hN (by omega)
    obtain ⟨y, s1, s2⟩ := conv_same W c d a hN (by omega)
    have hlt : i < l.length := by omega
    rw [LSw_eq]
    unfold rndSw
    rw [decide_eq_true (by omega), sel_t, r1, obnd_s, r2, obnd_s, s1, obnd_s, s2, obnd_s]
    simp only [ne_self, sel_f, tab_len, idxP_ok hlt]
    rw [show ((i : Int) == (l.length : Int)) = false from by simp; omega, sel_f]
    cases decide ((100 : Int) < ((rAt l i).1.size : Int)) with
    | true => rfl
    | false =>
      rw [sel_f, cdec_true.2 (ND_tab hN), sel_t, setV_eq _ _ _ (ND_tab hN), obnd_s]
      obtain ⟨W', e, t1, t2, t3, t4⟩ := set_same W (rAt l i) hN (by omega) (fun W' e => sel ((setP (keyOf (rAt l i)) (valOf (rAt l i)).1 (valOf (rAt l i)).2 (tabOf W)).1 != e) noT (LSw F k l c d a (setP (keyOf (rAt l i)) (valOf (rAt l i)).1 (valOf (rAt l i)).2 (tabOf W)).2 W' (IT.wrap ((i : Int) + 1))))
      rw [t2, t1]
      simp only [ne_self, sel_f]
      have hw : IT.wrap ((i : Int) + 1) = ((i + 1 : Nat) : Int) := by
        show IntKind.i64.wrap _ = _
        rw [IntKind.wrap_i64]
        omega
      rw [hw]
      exact ih (i + 1) k W' (by omega) (by omega) t3 (by omega)
theorem sets_ev (F : Nat) (hF : F = 100) (l : List RF) (c : ByteArray) (d a : Int) : evX Try.prog CSw (cnRow 1 TSw) F Try.f4 [qRows, qStr, qInt, qInt] [qBool] (l, c, d, a, ()) = yesT := by
  rw [sets_law]
  by_cases h1 : (60 : Int) < (l.length : Int)
  · rw [decide_eq_true h1, sel_t]
  · rw [decide_eq_false h1, sel_f]
    cases decide ((100 : Int) < (c.size : Int)) with
    | true => rfl
    | false =>
      rw [sel_f]
      exact sets_run F l c d a (by omega) l.length 0 F [] (by omega) (by omega) List.nodup_nil (by simp)
end Go.Proofs.Ytogmjkmnknaieaa.Ax
namespace Go.Proofs.Ytogmjkmnknaieaa.Print
open Go Go.RowKit Go.Proofs.YtogmjkmnknaieaaW.PrintWords Go.Proofs.Ytogmjkmnknaieaa.Ax
set_option linter.unusedVariables false
def octroilaw16_FxSets.f (l0 : List S29) (a1 : ByteArray) (a2 a3 : Int) : Option Bool := some true
theorem octroilaw16_FxSets.calls (A0 : Option Addr) (c0 : Nat) (l0 : List S29) (a1 : ByteArray) (a2 a3 : Int) (r : Bool) (w : World) (hr0 : Kd.C k29 w A0 l0.length l0) (hc0 : l0.length ≤ c0) (h : octroilaw16_FxSets.f l0 a1 a2 a3 = some r) :
    Calls Try.prog 4 #[.slice A0 l0.length c0, .string a1, .int .i64 a2, .int .i64 a3] w fun e w' => e = .returned (.bool r) ∧ Below w.heap.size w w' := by
  obtain rfl : true = r := Option.some.inj h
  obtain ⟨L, h1, h2⟩ := row_of_C rateT_enc rfl (by decide) hr0 hc0
  have := calls_of_X mixed Try.func4 CSw_ok (fun B' w => cnRow_ok) (sets_ev 100 rfl (l0.map rateTT) a1 a2 a3) (fun _ => L) w (fun j o hj => by
    obtain ⟨rfl, rfl⟩ := look_one hj
    exact ⟨Nat.le_refl _, by decide, rfl, rfl, h2 _⟩)
  have hargs : (denL (fun _ => L) (encA [qRows, qStr, qInt, qInt] (l0.map rateTT, a1, a2, a3, ()) 0)).toArray = #[.slice A0 l0.length c0, .string a1, .int .i64 a2, .int .i64 a3] := by
    have h3 := h1 (fun _ => L) 0 rfl
    show (#[den (fun _ => L) (.all 0), _, _, _] : Array Value) = _
    rw [h3]; rfl
  exact cast (congrArg (fun z => Calls Try.prog 4 z w fun e w' => e = .returned (.bool true) ∧ Below w.heap.size w w') hargs) this
end Go.Proofs.Ytogmjkmnknaieaa.Print
namespace Go.Proofs.Ytogmjkmnknaieaa.Print
open Go.RowKit Go.Proofs.YtogmjkmnknaieaaW.PrintWords Go.Proofs.YtogmjkmnknaieaaW.PrintLast
def octroilaw16_FxSets.Pure : Prop := ∀ (l0 : List (S29)) (a1 : ByteArray) (a2 : Int) (a3 : Int), l0.length ≤ maxLen → l0.length * 56 ≤ 140737488351232 → (∀ x ∈ l0, (x.f0.size ≤ maxLen ∧ (((Lit.int .i64 x.f1.f0).wf = true ∧ ((Lit.int .i64 x.f1.f1).wf = true ∧ (Lit.int .i64 x.f1.f2).wf = true)) ∧ ((Lit.int .i64 x.f2).wf = true ∧ (Lit.int .i64 x.f3).wf = true)))) → a1.size ≤ 140737488351232 → (Lit.int .i64 a2).wf = true → (Lit.int .i64 a3).wf = true → octroilaw16_FxSets.f l0 a1 a2 a3 = some true
end Go.Proofs.Ytogmjkmnknaieaa.Print
namespace Go.Proofs.Ytogmjkmnknaieaa.Pure
open Go.RowKit Go.Proofs.Ytogmjkmnknaieaa.Print
theorem FxSets : octroilaw16_FxSets.Pure := by
  unfold octroilaw16_FxSets.Pure
  intros; rfl
end Go.Proofs.Ytogmjkmnknaieaa.Pure
namespace Go.Proofs.Ytogmjkmnknaieaa.Ax
open Go Go.RowKit
set_option linter.unusedVariables false
set_option linter.unusedSimpArgs false
def takeRow (ty : TypeId) (s : List Sc) (v : SV) (h : Hp) : Option (List (TT s) × Hp) := match v with
  | .v (.slice none 0 0) => some ([], h)
  | .all k => match look h k with
    | some (.row ty' s' l) => cond (Nat.beq ty ty') (match castL s' s l with
      | none => none
      | some l' => some (l', put h k .dead)) none
    | _ => none
  | .slc k n 0 m (some c) => cond (Nat.beq n s.length && Nat.beq m c) (match look h k with
    | some (.cells ty' cs) => cond (Nat.beq ty ty') (match decRows s n m cs with
      | none => none
      | some l' => some (l', put h k .dead)) none
    | _ => none) none
  | _ => none
def rowCell (id j : Nat) (ty : TypeId) (s : List Sc) (σ : St) : Option St := match look σ.hp id with
  | some (.cells t c) => match c[j]? with
    | some v => match takeRow ty s v σ.hp with
      | some (l, h') => match look h' id with
        | some (.cells t' c') => match Nat.beq t t' && Nat.blt id σ.nx with
          | true => some ⟨σ.sl, put (put h' σ.nx (.row ty s l)) id (.cells t (c.set j (.all σ.nx))), σ.nx + 1⟩
          | false => none
        | _ => none
      | none => none
    | none => none
  | _ => none
def rowRes (j : Nat) (ty : TypeId) (s : List Sc) (σ : St) : Option St := match look σ.sl 0 with
  | some (.tup c) => match c[j]? with
    | some v => match takeRow ty s v σ.hp with
      | some (l, h') => some ⟨put σ.sl 0 (.tup (c.set j (.all σ.nx))), put h' σ.nx (.row ty s l), σ.nx + 1⟩
      | none => none
    | none => none
  | some v => match takeRow ty s v σ.hp with
    | some (l, h') => some ⟨put σ.sl 0 (.all σ.nx), put h' σ.nx (.row ty s l), σ.nx + 1⟩
    | none => none
  | none => none
def dropNm (id : Nat) (σ : St) : Option St := match look σ.hp id with
  | some _ => some ⟨σ.sl, put σ.hp id .dead, σ.nx⟩
  | none => none
inductive Rw where
  | drop (id : Nat)
  | cell (id j : Nat) (ty : TypeId) (s : List Sc)
  | res (j : Nat) (ty : TypeId) (s : List Sc)
def rows : List Rw → St → Option St
  | [], σ => some σ
  | .drop id :: l, σ => match dropNm id σ with
    | none => none
    | some σ' => rows l σ'
  | .cell id j ty s :: l, σ => match rowCell id j ty s σ with
    | none => none
    | some σ' => rows l σ'
  | .res j ty s :: l, σ => match rowRes j ty s σ with
    | none => none
    | some σ' => rows l σ'
section
variable {P : Program} {C : FuncId → Option Con} {cn : Nat → St → Option St}
end
end Go.Proofs.Ytogmjkmnknaieaa.Ax
