/- The row of the law CivilOf, by a program of this session's (wip/lawrow.py), over its pure statement and its walk. -/
import Derived.Test.YtckgjpklhfolnaaRows
import Derived.Test.YtckgjpklhfolnaaSayCivilOf
import Derived.Test.YtckgjpklhfolnaaPureCivilOf
import Derived.Test.YtckgjpklhfolnaaOpen
import Derived.Test.YtckgjpklhfolnaaWSized
import Derived.WalkKit
import Derived.ProofKit
import Derived.OpenShut
import Derived.ShutString
import Derived.ChangeOld
import Derived.Below
import Derived.SizedLaws
namespace Go.Proofs.Ytckgjpklhfolnaa.civilOf
open Go.ChangeShapes Go.WideShapes Go.ChangeAt Go.RowKit Go.Proofs.Ytckgjpklhfolnaa.Print Go.Proofs.YtckgjpklhfolnaaW.PrintWords Go.Proofs.YtckgjpklhfolnaaW.PrintLast
open Go.ChangeMaps (open_string shut_string)
set_option linter.unusedVariables false
set_option linter.unusedSimpArgs false
theorem own : ownKnob Try.prog.godebug = none := by kernel_rfl
theorem laidOut : laidOutB Try.prog = true := by kernel_rfl
theorem opn2 : Opens Try.prog 36 (Kd.pair (Kd.int .i64) (Kd.pair (Kd.int .i64) (Kd.int .i64))) (fun x => ((Lit.int .i64 x.1).wf = true ∧ ((Lit.int .i64 x.2.1).wf = true ∧ (Lit.int .i64 x.2.2).wf = true))) := opens_struct (d := (Kd.pair (Kd.int .i64) (Kd.pair (Kd.int .i64) (Kd.int .i64)))) Try.underlying36 (by kernel_rfl) (opF_cons rfl (opens_int (k := .i64) Try.underlying3 (by kernel_rfl)) rfl (opF_cons rfl (opens_int (k := .i64) Try.underlying3 (by kernel_rfl)) rfl (opF_one rfl (opens_int (k := .i64) Try.underlying3 (by kernel_rfl)))))
theorem opn3 : Opens Try.prog 36 (Kd.pair (Kd.int .i64) (Kd.pair (Kd.int .i64) (Kd.int .i64))) (fun x => ((Lit.int .i64 x.1).wf = true ∧ ((Lit.int .i64 x.2.1).wf = true ∧ (Lit.int .i64 x.2.2).wf = true))) := opens_struct (d := (Kd.pair (Kd.int .i64) (Kd.pair (Kd.int .i64) (Kd.int .i64)))) Try.underlying36 (by kernel_rfl) (opF_cons rfl (opens_int (k := .i64) Try.underlying3 (by kernel_rfl)) rfl (opF_cons rfl (opens_int (k := .i64) Try.underlying3 (by kernel_rfl)) rfl (opF_one rfl (opens_int (k := .i64) Try.underlying3 (by kernel_rfl)))))
set_option maxRecDepth 100000 in
theorem lifted (os : Os) (started : os.Started) (H : Type) (enc : TypeId × Value → H) :
    ReturnsInHanded {} Try.checked os 7 .any (Rows.civilOfSpec.pre6 enc Try.prog Try.f7 Rows.civilOfRow.domain false) (Rows.civilOfSpec.post enc Try.prog Try.f7 false true false false) := by
  refine returnsInHanded_of_change_sized (C := Try.checked) own started (by kernel_rfl) Try.func7
    (ChangeSpec.witness6 (enc := enc) (C := Try.checked) false ⟨#[], #[.int .i64 0, .int .i64 0, .agg #[.int .i64 0, .int .i64 0, .int .i64 0], .agg #[.int .i64 0, .int .i64 0, .int .i64 0]], []⟩ 8 (by kernel_rfl) (by kernel_rfl) (by kernel_rfl) (by kernel_rfl)) ?_
  intro W base args ds gs before hval0 hW hcnd hsz0 _
  have hsz : (DataW.weightsEach Try.prog (Try.f7.params.toList ++ Rows.civilOfSpec.plain.varTypes Try.prog) (ds ++ gs)).all (· ≤ reachBytes) = true := hsz0
  have hval : ∀ (j : Nat) t v, Try.f7.params[j]? = some t → args[j]? = some v → Value.okWide Try.prog W .any base t v := hval0
  have hW' := hW
  obtain ⟨p, q, hA0, hV, rfl, hfz, hnd⟩ := hW
  have hA : DataW.TrodAll enc Try.prog W 0 (fun _ => true) true Try.f7.params.toList args.toList ds p := hA0
  rw [Try.params7] at hA hval hsz
  obtain ⟨v0, vs0, d0, ds0, p0, q0, hargs, rfl, rfl, h0, r0⟩ := trodAll_cons hA
  obtain ⟨v1, vs1, d1, ds1, p1, q1, rfl, rfl, rfl, h1, r1⟩ := trodAll_cons r0
  obtain ⟨v2, vs2, d2, ds2, p2, q2, rfl, rfl, rfl, h2, r2⟩ := trodAll_cons r1
  obtain ⟨v3, vs3, d3, ds3, p3, q3, rfl, rfl, rfl, h3, r3⟩ := trodAll_cons r2
  obtain ⟨rfl, rfl, rfl⟩ := trodAll_nil r3
  obtain rfl : args = #[v0, v1, v2, v3] := by cases args; simp_all
  obtain ⟨rfl, rfl⟩ := trodVars_none hV
  obtain ⟨a0, rfl, rfl, rfl, w0⟩ := open_int Try.underlying3 (hval 0 3 v0 rfl rfl) h0
  obtain ⟨a1, rfl, rfl, rfl, w1⟩ := open_int Try.underlying3 (hval 1 3 v1 rfl rfl) h1
  obtain ⟨c2, rfl, _⟩ := okWide_struct Try.underlying36 (hval 2 36 v2 rfl rfl)
  have k2 := h2
  have lt2 : ∀ x ∈ p2, x.block < W.heap.size := by obtain ⟨m, hm⟩ := k2; exact DataW.trod_lt m _ _ _ hm
  obtain ⟨a2_0, a2_1, a2_2, e2, g2_0, g2_1, g2_2⟩ : ∃ (a2_0 : Int) (a2_1 : Int) (a2_2 : Int), c2 = #[.int .i64 a2_0, .int .i64 a2_1, .int .i64 a2_2] ∧ ((Lit.int .i64 a2_0).wf = true) ∧ ((Lit.int .i64 a2_1).wf = true) ∧ ((Lit.int .i64 a2_2).wf = true) := by
    obtain ⟨fuel, hf⟩ := h2
    obtain ⟨⟨a2_0, a2_1, a2_2⟩, hk, hg⟩ := opn2.2 _ _ _ _ _ _ _ _ _ hf
    obtain ⟨g2_0, g2_1, g2_2⟩ := hg
    have hk2 : c2.toList = [.int .i64 a2_0, .int .i64 a2_1, .int .i64 a2_2] := by
      have hk3 := hk
      obtain ⟨cc, hcc⟩ : ∃ cc, cc = (Value.agg c2).cells.toList := ⟨_, rfl⟩
      rw [← hcc] at hk3
      have e : cc = [.int .i64 a2_0, .int .i64 a2_1, .int .i64 a2_2] := by
        obtain ⟨_, _, rfl, rfl, ⟨_, _, rfl, rfl, rfl⟩⟩ := hk3
        rfl
      rw [← e, hcc]; rfl
    exact ⟨a2_0, a2_1, a2_2, Array.toList_inj.1 hk2, g2_0, g2_1, g2_2⟩
  subst e2
  obtain ⟨c3, rfl, _⟩ := okWide_struct Try.underlying36 (hval 3 36 v3 rfl rfl)
  have k3 := h3
  have lt3 : ∀ x ∈ p3, x.block < W.heap.size := by obtain ⟨m, hm⟩ := k3; exact DataW.trod_lt m _ _ _ hm
  obtain ⟨a3_0, a3_1, a3_2, e3, g3_0, g3_1, g3_2⟩ : ∃ (a3_0 : Int) (a3_1 : Int) (a3_2 : Int), c3 = #[.int .i64 a3_0, .int .i64 a3_1, .int .i64 a3_2] ∧ ((Lit.int .i64 a3_0).wf = true) ∧ ((Lit.int .i64 a3_1).wf = true) ∧ ((Lit.int .i64 a3_2).wf = true) := by
    obtain ⟨fuel, hf⟩ := h3
    obtain ⟨⟨a3_0, a3_1, a3_2⟩, hk, hg⟩ := opn3.2 _ _ _ _ _ _ _ _ _ hf
    obtain ⟨g3_0, g3_1, g3_2⟩ := hg
    have hk2 : c3.toList = [.int .i64 a3_0, .int .i64 a3_1, .int .i64 a3_2] := by
      have hk3 := hk
      obtain ⟨cc, hcc⟩ : ∃ cc, cc = (Value.agg c3).cells.toList := ⟨_, rfl⟩
      rw [← hcc] at hk3
      have e : cc = [.int .i64 a3_0, .int .i64 a3_1, .int .i64 a3_2] := by
        obtain ⟨_, _, rfl, rfl, ⟨_, _, rfl, rfl, rfl⟩⟩ := hk3
        rfl
      rw [← e, hcc]; rfl
    exact ⟨a3_0, a3_1, a3_2, Array.toList_inj.1 hk2, g3_0, g3_1, g3_2⟩
  subst e3
  clear hA0 hval0 hsz0 hsz
  obtain ⟨k, h⟩ := Pure.CivilOf a0 a1 a2_0 a2_1 a2_2 a3_0 a3_1 a3_2 w0 w1 g2_0 g2_1 g2_2 g3_0 g3_1 g3_2
  refine (octroilaw04_CivilOf.calls k a0 a1 a2_0 a2_1 a2_2 a3_0 a3_1 a3_2 true W  h).mono fun e W' he => ?_
  obtain ⟨rfl, bel0⟩ := he
  have bel : Below W.heap.size W W' := bel0
  exact ⟨_, rfl, _, _, _, [], _, [], hW', trodAll_mk1 (shut_bool Try.underlying4 _), trodAll_cons_mk (shut_int Try.underlying3 w0) (trodAll_cons_mk (shut_int Try.underlying3 w1) (trodAll_cons_mk (Below.trod laidOut (by kernel_rfl) (of_decide_eq_true (by kernel_rfl)) k2 bel lt2) (trodAll_cons_mk (Below.trod laidOut (by kernel_rfl) (of_decide_eq_true (by kernel_rfl)) k3 bel lt3) (trodAll_mk0)))), rfl, bel.frame _, fun h => by cases h⟩
theorem over : Rows.civilOfRow.holds Try.pinned (OpenSpec.ofChange Rows.civilOfSpec) :=
  OpenClaim.holds_of_wide 7 Try.f7 rfl rfl rfl rfl rfl rfl rfl ⟨rfl, rfl, rfl, rfl, rfl⟩ rfl rfl rfl rfl rfl (by kernel_rfl) Try.func7 (by kernel_rfl)
    (of_decide_eq_true (by kernel_rfl)) (by unfold Func.isWrapper; first | (rw [if_pos (by decide +kernel)]; kernel_rfl) | (rw [if_neg (by decide +kernel)]; exact ⟨rfl, rfl⟩))
    (fun os started H enc _ => lifted os started H enc)
theorem proved : Rows.CivilOfSaid := over
#print axioms proved
end Go.Proofs.Ytckgjpklhfolnaa.civilOf
namespace Go.Proofs.Ytckgjpklhfolnaa
/-- The row, under a short name, for the claim. -/
theorem civilOf_holds : Rows.CivilOfSaid := civilOf.proved
end Go.Proofs.Ytckgjpklhfolnaa
