/- The row of the law TimelineSets, by a program of this session's (wip/lawrow.py), over its pure statement and its walk. -/
import Derived.Test.YtbmapmigiokbcaaRows
import Derived.Test.YtbmapmigiokbcaaAx23
import Derived.Test.YtbmapmigiokbcaaOpen
import Derived.SizedLaws
import Derived.ChangeSlices
import Derived.WalkKit
import Derived.ProofKit
import Derived.OpenShut
import Derived.ShutString
import Derived.ChangeOld
import Derived.Below
namespace Go.Proofs.Ytbmapmigiokbcaa.timelineSets
open Go.ChangeShapes Go.WideShapes Go.ChangeAt Go.RowKit Go.Proofs.Ytbmapmigiokbcaa.Print Go.Proofs.YtbmapmigiokbcaaW.PrintWords Go.Proofs.YtbmapmigiokbcaaW.PrintLast
open Go.ChangeMaps (open_string shut_string)
set_option linter.unusedVariables false
set_option linter.unusedSimpArgs false
theorem own : ownKnob Try.prog.godebug = none := by kernel_rfl
theorem laidOut : laidOutB Try.prog = true := by kernel_rfl
set_option maxRecDepth 100000 in
theorem opn1 : Opens Try.prog 27 k27 (fun x => ((Lit.int .i64 x.f0).wf = true ∧ ((Lit.int .i64 x.f1).wf = true ∧ (Lit.int .i64 x.f2).wf = true))) := opens_iso (β := S27) (f := fun x : S27 => (x.f0, x.f1, x.f2)) (fun a => ⟨a.1, a.2.1, a.2.2⟩) (fun a => rfl) (opens_struct (d := (Kd.pair (Kd.int .i64) (Kd.pair (Kd.int .i64) (Kd.int .i64)))) Try.underlying27 (by kernel_rfl) (opF_cons rfl (opens_int (k := .i64) Try.underlying3 (by kernel_rfl)) rfl (opF_cons rfl (opens_int (k := .i64) Try.underlying3 (by kernel_rfl)) rfl (opF_one rfl (opens_int (k := .i64) Try.underlying3 (by kernel_rfl))))))
set_option maxRecDepth 100000 in
theorem opn2 : Opens Try.prog 23 (Kd.pair (Kd.int .i64) (Kd.int .i64)) (fun x => ((Lit.int .i64 x.1).wf = true ∧ (Lit.int .i64 x.2).wf = true)) := opens_struct (d := (Kd.pair (Kd.int .i64) (Kd.int .i64))) Try.underlying23 (by kernel_rfl) (opF_cons rfl (opens_int (k := .i64) Try.underlying3 (by kernel_rfl)) rfl (opF_one rfl (opens_int (k := .i64) Try.underlying3 (by kernel_rfl))))
set_option maxRecDepth 100000 in
theorem lifted (os : Os) (started : os.Started) (H : Type) (enc : TypeId × Value → H) :
    ReturnsInHanded {} Try.checked os 5 .any (Rows.timelineSetsSpec.pre6 enc Try.prog Try.f5 Rows.timelineSetsRow.domain false) (Rows.timelineSetsSpec.post enc Try.prog Try.f5 false true false false) := by
  refine returnsInHanded_of_change_sized (C := Try.checked) own started (by kernel_rfl) Try.func5
    (ChangeSpec.witness6 (enc := enc) (C := Try.checked) false ⟨#[], #[.int .i64 0, .slice none 0 0, .agg #[.int .i64 0, .int .i64 0]], []⟩ 8 (by kernel_rfl) (by kernel_rfl) (by kernel_rfl) (by kernel_rfl)) ?_
  intro W base args ds gs before hval0 hW hcnd hsz0 _
  have hsz : (DataW.weightsEach Try.prog (Try.f5.params.toList ++ Rows.timelineSetsSpec.plain.varTypes Try.prog) (ds ++ gs)).all (· ≤ reachBytes) = true := hsz0
  have hval : ∀ (j : Nat) t v, Try.f5.params[j]? = some t → args[j]? = some v → Value.okWide Try.prog W .any base t v := hval0
  have hW' := hW
  obtain ⟨p, q, hA0, hV, rfl, hfz, hnd⟩ := hW
  have hA : DataW.TrodAll enc Try.prog W 0 (fun _ => true) true Try.f5.params.toList args.toList ds p := hA0
  rw [Try.params5] at hA hval hsz
  obtain ⟨v0, vs0, d0, ds0, p0, q0, hargs, rfl, rfl, h0, r0⟩ := trodAll_cons hA
  obtain ⟨v1, vs1, d1, ds1, p1, q1, rfl, rfl, rfl, h1, r1⟩ := trodAll_cons r0
  obtain ⟨v2, vs2, d2, ds2, p2, q2, rfl, rfl, rfl, h2, r2⟩ := trodAll_cons r1
  obtain ⟨rfl, rfl, rfl⟩ := trodAll_nil r2
  obtain rfl : args = #[v0, v1, v2] := by cases args; simp_all
  obtain ⟨rfl, rfl⟩ := trodVars_none hV
  obtain ⟨a0, rfl, rfl, rfl, w0⟩ := open_int Try.underlying3 (hval 0 3 v0 rfl rfl) h0
  obtain ⟨a1, len1, cap1, rfl⟩ := okWide_slice Try.underlying41 (hval 1 41 v1 rfl rfl)
  have k1 := h1
  have lt1 : ∀ x ∈ p1, x.block < W.heap.size := by obtain ⟨m, hm⟩ := k1; exact DataW.trod_lt m _ _ _ hm
  have y1 : len1 * 24 ≤ 140737488351232 := sized_row hsz (j := 1) (t := 41) rfl rfl Try.underlying41 (by kernel_rfl) h1
  obtain ⟨l1, rfl, hr1, hc1, hm1, hg1⟩ := opens_row Try.underlying41 opn1 h1
  obtain ⟨c2, rfl, _⟩ := okWide_struct Try.underlying23 (hval 2 23 v2 rfl rfl)
  have k2 := h2
  have lt2 : ∀ x ∈ p2, x.block < W.heap.size := by obtain ⟨m, hm⟩ := k2; exact DataW.trod_lt m _ _ _ hm
  obtain ⟨a2_0, a2_1, e2, g2_0, g2_1⟩ : ∃ (a2_0 : Int) (a2_1 : Int), c2 = #[.int .i64 a2_0, .int .i64 a2_1] ∧ ((Lit.int .i64 a2_0).wf = true) ∧ ((Lit.int .i64 a2_1).wf = true) := by
    obtain ⟨fuel, hf⟩ := h2
    obtain ⟨⟨a2_0, a2_1⟩, hk, hg⟩ := opn2.2 _ _ _ _ _ _ _ _ _ hf
    obtain ⟨g2_0, g2_1⟩ := hg
    have hk2 : c2.toList = [.int .i64 a2_0, .int .i64 a2_1] := by
      have hk3 := hk
      obtain ⟨cc, hcc⟩ : ∃ cc, cc = (Value.agg c2).cells.toList := ⟨_, rfl⟩
      rw [← hcc] at hk3
      have e : cc = [.int .i64 a2_0, .int .i64 a2_1] := by
        obtain ⟨_, _, rfl, rfl, rfl⟩ := hk3
        rfl
      rw [← e, hcc]; rfl
    exact ⟨a2_0, a2_1, Array.toList_inj.1 hk2, g2_0, g2_1⟩
  subst e2
  clear hA0 hval0 hsz0 hsz
  have h := Pure.TimelineSets a0 l1 a2_0 a2_1 w0 hm1 y1 hg1 g2_0 g2_1
  refine (octroilaw13_TimelineSets.calls a0 _ _ l1 a2_0 a2_1 true W hr1 hc1 h).mono fun e W' he => ?_
  obtain ⟨rfl, bel0⟩ := he
  have bel : Below W.heap.size W W' := bel0
  exact ⟨_, rfl, _, _, _, [], _, [], hW', trodAll_mk1 (shut_bool Try.underlying4 _), trodAll_cons_mk (shut_int Try.underlying3 w0) (trodAll_cons_mk (Below.trod laidOut (by kernel_rfl) (of_decide_eq_true (by kernel_rfl)) k1 bel lt1) (trodAll_cons_mk (Below.trod laidOut (by kernel_rfl) (of_decide_eq_true (by kernel_rfl)) k2 bel lt2) (trodAll_mk0))), rfl, bel.frame _, fun h => by cases h⟩
theorem over : Rows.timelineSetsRow.holds Try.pinned (OpenSpec.ofChange Rows.timelineSetsSpec) :=
  OpenClaim.holds_of_wide 5 Try.f5 rfl rfl rfl rfl rfl rfl rfl ⟨rfl, rfl, rfl, rfl, rfl⟩ rfl rfl rfl rfl rfl (by kernel_rfl) Try.func5 (by kernel_rfl)
    (of_decide_eq_true (by kernel_rfl)) (by unfold Func.isWrapper; first | (rw [if_pos (by decide +kernel)]; kernel_rfl) | (rw [if_neg (by decide +kernel)]; exact ⟨rfl, rfl⟩))
    (fun os started H enc _ => lifted os started H enc)
theorem proved : Rows.TimelineSetsSaid := over
#print axioms proved
end Go.Proofs.Ytbmapmigiokbcaa.timelineSets
namespace Go.Proofs.Ytbmapmigiokbcaa
theorem timelineSets_holds : Rows.TimelineSetsSaid := timelineSets.proved
end Go.Proofs.Ytbmapmigiokbcaa
