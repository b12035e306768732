/- The row of the law TimelineOrder, by a program of this session's (wip/lawrow.py), over its pure statement and its walk. -/
import Derived.Test.YtbmapmigiokbcaaRows
import Derived.Test.YtbmapmigiokbcaaAx23
import Derived.Test.YtbmapmigiokbcaaOpen
import Derived.SizedLaws
import Derived.ChangeSlices
import Derived.WalkKit
import Derived.ProofKit
import Derived.OpenShut
import Derived.ShutString
import Derived.ChangeOld
import Derived.Below
namespace Go.Proofs.Ytbmapmigiokbcaa.timelineOrder
open Go.ChangeShapes Go.WideShapes Go.ChangeAt Go.RowKit Go.Proofs.Ytbmapmigiokbcaa.Print Go.Proofs.YtbmapmigiokbcaaW.PrintWords Go.Proofs.YtbmapmigiokbcaaW.PrintLast
open Go.ChangeMaps (open_string shut_string)
set_option linter.unusedVariables false
set_option linter.unusedSimpArgs false
theorem own : ownKnob Try.prog.godebug = none := by kernel_rfl
theorem laidOut : laidOutB Try.prog = true := by kernel_rfl
set_option maxRecDepth 100000 in
theorem opn0 : Opens Try.prog 27 (Kd.pair (Kd.int .i64) (Kd.pair (Kd.int .i64) (Kd.int .i64))) (fun x => ((Lit.int .i64 x.1).wf = true ∧ ((Lit.int .i64 x.2.1).wf = true ∧ (Lit.int .i64 x.2.2).wf = true))) := opens_struct (d := (Kd.pair (Kd.int .i64) (Kd.pair (Kd.int .i64) (Kd.int .i64)))) Try.underlying27 (by kernel_rfl) (opF_cons rfl (opens_int (k := .i64) Try.underlying3 (by kernel_rfl)) rfl (opF_cons rfl (opens_int (k := .i64) Try.underlying3 (by kernel_rfl)) rfl (opF_one rfl (opens_int (k := .i64) Try.underlying3 (by kernel_rfl)))))
set_option maxRecDepth 100000 in
theorem opn1 : Opens Try.prog 27 (Kd.pair (Kd.int .i64) (Kd.pair (Kd.int .i64) (Kd.int .i64))) (fun x => ((Lit.int .i64 x.1).wf = true ∧ ((Lit.int .i64 x.2.1).wf = true ∧ (Lit.int .i64 x.2.2).wf = true))) := opens_struct (d := (Kd.pair (Kd.int .i64) (Kd.pair (Kd.int .i64) (Kd.int .i64)))) Try.underlying27 (by kernel_rfl) (opF_cons rfl (opens_int (k := .i64) Try.underlying3 (by kernel_rfl)) rfl (opF_cons rfl (opens_int (k := .i64) Try.underlying3 (by kernel_rfl)) rfl (opF_one rfl (opens_int (k := .i64) Try.underlying3 (by kernel_rfl)))))
set_option maxRecDepth 100000 in
theorem lifted (os : Os) (started : os.Started) (H : Type) (enc : TypeId × Value → H) :
    ReturnsInHanded {} Try.checked os 4 .any (Rows.timelineOrderSpec.pre6 enc Try.prog Try.f4 Rows.timelineOrderRow.domain false) (Rows.timelineOrderSpec.post enc Try.prog Try.f4 false true false false) := by
  refine returnsInHanded_of_change_sized (C := Try.checked) own started (by kernel_rfl) Try.func4
    (ChangeSpec.witness6 (enc := enc) (C := Try.checked) false ⟨#[], #[.agg #[.int .i64 0, .int .i64 0, .int .i64 0], .agg #[.int .i64 0, .int .i64 0, .int .i64 0], .int .i64 0], []⟩ 8 (by kernel_rfl) (by kernel_rfl) (by kernel_rfl) (by kernel_rfl)) ?_
  intro W base args ds gs before hval0 hW hcnd hsz0 _
  have hsz : (DataW.weightsEach Try.prog (Try.f4.params.toList ++ Rows.timelineOrderSpec.plain.varTypes Try.prog) (ds ++ gs)).all (· ≤ reachBytes) = true := hsz0
  have hval : ∀ (j : Nat) t v, Try.f4.params[j]? = some t → args[j]? = some v → Value.okWide Try.prog W .any base t v := hval0
  have hW' := hW
  obtain ⟨p, q, hA0, hV, rfl, hfz, hnd⟩ := hW
  have hA : DataW.TrodAll enc Try.prog W 0 (fun _ => true) true Try.f4.params.toList args.toList ds p := hA0
  rw [Try.params4] at hA hval hsz
  obtain ⟨v0, vs0, d0, ds0, p0, q0, hargs, rfl, rfl, h0, r0⟩ := trodAll_cons hA
  obtain ⟨v1, vs1, d1, ds1, p1, q1, rfl, rfl, rfl, h1, r1⟩ := trodAll_cons r0
  obtain ⟨v2, vs2, d2, ds2, p2, q2, rfl, rfl, rfl, h2, r2⟩ := trodAll_cons r1
  obtain ⟨rfl, rfl, rfl⟩ := trodAll_nil r2
  obtain rfl : args = #[v0, v1, v2] := by cases args; simp_all
  obtain ⟨rfl, rfl⟩ := trodVars_none hV
  obtain ⟨c0, rfl, _⟩ := okWide_struct Try.underlying27 (hval 0 27 v0 rfl rfl)
  have k0 := h0
  have lt0 : ∀ x ∈ p0, x.block < W.heap.size := by obtain ⟨m, hm⟩ := k0; exact DataW.trod_lt m _ _ _ hm
  obtain ⟨a0_0, a0_1, a0_2, e0, g0_0, g0_1, g0_2⟩ : ∃ (a0_0 : Int) (a0_1 : Int) (a0_2 : Int), c0 = #[.int .i64 a0_0, .int .i64 a0_1, .int .i64 a0_2] ∧ ((Lit.int .i64 a0_0).wf = true) ∧ ((Lit.int .i64 a0_1).wf = true) ∧ ((Lit.int .i64 a0_2).wf = true) := by
    obtain ⟨fuel, hf⟩ := h0
    obtain ⟨⟨a0_0, a0_1, a0_2⟩, hk, hg⟩ := opn0.2 _ _ _ _ _ _ _ _ _ hf
    obtain ⟨g0_0, g0_1, g0_2⟩ := hg
    have hk2 : c0.toList = [.int .i64 a0_0, .int .i64 a0_1, .int .i64 a0_2] := by
      have hk3 := hk
      obtain ⟨cc, hcc⟩ : ∃ cc, cc = (Value.agg c0).cells.toList := ⟨_, rfl⟩
      rw [← hcc] at hk3
      have e : cc = [.int .i64 a0_0, .int .i64 a0_1, .int .i64 a0_2] := by
        obtain ⟨_, _, rfl, rfl, ⟨_, _, rfl, rfl, rfl⟩⟩ := hk3
        rfl
      rw [← e, hcc]; rfl
    exact ⟨a0_0, a0_1, a0_2, Array.toList_inj.1 hk2, g0_0, g0_1, g0_2⟩
  subst e0
  obtain ⟨c1, rfl, _⟩ := okWide_struct Try.underlying27 (hval 1 27 v1 rfl rfl)
  have k1 := h1
  have lt1 : ∀ x ∈ p1, x.block < W.heap.size := by obtain ⟨m, hm⟩ := k1; exact DataW.trod_lt m _ _ _ hm
  obtain ⟨a1_0, a1_1, a1_2, e1, g1_0, g1_1, g1_2⟩ : ∃ (a1_0 : Int) (a1_1 : Int) (a1_2 : Int), c1 = #[.int .i64 a1_0, .int .i64 a1_1, .int .i64 a1_2] ∧ ((Lit.int .i64 a1_0).wf = true) ∧ ((Lit.int .i64 a1_1).wf = true) ∧ ((Lit.int .i64 a1_2).wf = true) := by
    obtain ⟨fuel, hf⟩ := h1
    obtain ⟨⟨a1_0, a1_1, a1_2⟩, hk, hg⟩ := opn1.2 _ _ _ _ _ _ _ _ _ hf
    obtain ⟨g1_0, g1_1, g1_2⟩ := hg
    have hk2 : c1.toList = [.int .i64 a1_0, .int .i64 a1_1, .int .i64 a1_2] := by
      have hk3 := hk
      obtain ⟨cc, hcc⟩ : ∃ cc, cc = (Value.agg c1).cells.toList := ⟨_, rfl⟩
      rw [← hcc] at hk3
      have e : cc = [.int .i64 a1_0, .int .i64 a1_1, .int .i64 a1_2] := by
        obtain ⟨_, _, rfl, rfl, ⟨_, _, rfl, rfl, rfl⟩⟩ := hk3
        rfl
      rw [← e, hcc]; rfl
    exact ⟨a1_0, a1_1, a1_2, Array.toList_inj.1 hk2, g1_0, g1_1, g1_2⟩
  subst e1
  obtain ⟨a2, rfl, rfl, rfl, w2⟩ := open_int Try.underlying3 (hval 2 3 v2 rfl rfl) h2
  clear hA0 hval0 hsz0 hsz
  have h := Pure.TimelineOrder a0_0 a0_1 a0_2 a1_0 a1_1 a1_2 a2 g0_0 g0_1 g0_2 g1_0 g1_1 g1_2 w2
  refine (octroilaw13_TimelineOrder.calls a0_0 a0_1 a0_2 a1_0 a1_1 a1_2 a2 true W  h).mono fun e W' he => ?_
  obtain ⟨rfl, bel0⟩ := he
  have bel : Below W.heap.size W W' := bel0
  exact ⟨_, rfl, _, _, _, [], _, [], hW', trodAll_mk1 (shut_bool Try.underlying4 _), trodAll_cons_mk (Below.trod laidOut (by kernel_rfl) (of_decide_eq_true (by kernel_rfl)) k0 bel lt0) (trodAll_cons_mk (Below.trod laidOut (by kernel_rfl) (of_decide_eq_true (by kernel_rfl)) k1 bel lt1) (trodAll_cons_mk (shut_int Try.underlying3 w2) (trodAll_mk0))), rfl, bel.frame _, fun h => by cases h⟩
theorem over : Rows.timelineOrderRow.holds Try.pinned (OpenSpec.ofChange Rows.timelineOrderSpec) :=
  OpenClaim.holds_of_wide 4 Try.f4 rfl rfl rfl rfl rfl rfl rfl ⟨rfl, rfl, rfl, rfl, rfl⟩ rfl rfl rfl rfl rfl (by kernel_rfl) Try.func4 (by kernel_rfl)
    (of_decide_eq_true (by kernel_rfl)) (by unfold Func.isWrapper; first | (rw [if_pos (by decide +kernel)]; kernel_rfl) | (rw [if_neg (by decide +kernel)]; exact ⟨rfl, rfl⟩))
    (fun os started H enc _ => lifted os started H enc)
theorem proved : Rows.TimelineOrderSaid := over
#print axioms proved
end Go.Proofs.Ytbmapmigiokbcaa.timelineOrder
namespace Go.Proofs.Ytbmapmigiokbcaa
theorem timelineOrder_holds : Rows.TimelineOrderSaid := timelineOrder.proved
end Go.Proofs.Ytbmapmigiokbcaa
