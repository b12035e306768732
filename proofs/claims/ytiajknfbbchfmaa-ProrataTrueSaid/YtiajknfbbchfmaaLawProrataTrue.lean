/- The row of the law ProrataTrue, by a program of this session's (wip/lawrow.py), over its pure statement and its walk. -/
import Derived.Test.YtiajknfbbchfmaaRows
import Derived.Test.YtiajknfbbchfmaaPureProrataTrue
import Derived.Test.YtiajknfbbchfmaaOpen
import Derived.SizedLaws
import Derived.ChangeSlices
import Derived.WalkKit
import Derived.ProofKit
import Derived.OpenShut
import Derived.ShutString
import Derived.ChangeOld
import Derived.Below
namespace Go.Proofs.Ytiajknfbbchfmaa.prorataTrue
open Go.ChangeShapes Go.WideShapes Go.ChangeAt Go.RowKit Go.Proofs.Ytiajknfbbchfmaa.Print Go.Proofs.YtiajknfbbchfmaaW.PrintWords Go.Proofs.YtiajknfbbchfmaaW.PrintLast
open Go.ChangeMaps (open_string shut_string)
set_option linter.unusedVariables false
set_option linter.unusedSimpArgs false
theorem own : ownKnob Try.prog.godebug = none := by kernel_rfl
theorem laidOut : laidOutB Try.prog = true := by kernel_rfl
set_option maxRecDepth 100000 in
theorem opn0 : Opens Try.prog 34 k34 (fun x => (((Lit.int .i64 x.f0.f0).wf = true ∧ ((Lit.int .i64 x.f0.f1).wf = true ∧ (Lit.int .i64 x.f0.f2).wf = true)) ∧ (((Lit.int .i64 x.f1.f0).wf = true ∧ ((Lit.int .i64 x.f1.f1).wf = true ∧ (Lit.int .i64 x.f1.f2).wf = true)) ∧ (x.f2.size ≤ maxLen ∧ (True ∧ ((Lit.int .i64 x.f4).wf = true ∧ ((Lit.int .i64 x.f5).wf = true ∧ ((Lit.int .i64 x.f6).wf = true ∧ (x.f7.size ≤ maxLen ∧ (x.f8.size ≤ maxLen ∧ ((Lit.int .i64 x.f9).wf = true ∧ ((Lit.int .i64 x.f10).wf = true ∧ ((Lit.int .i64 x.f11).wf = true ∧ True))))))))))))) := opens_iso (β := S34) (f := fun x : S34 => (x.f0, x.f1, x.f2, x.f3, x.f4, x.f5, x.f6, x.f7, x.f8, x.f9, x.f10, x.f11, x.f12)) (fun a => ⟨a.1, a.2.1, a.2.2.1, a.2.2.2.1, a.2.2.2.2.1, a.2.2.2.2.2.1, a.2.2.2.2.2.2.1, a.2.2.2.2.2.2.2.1, a.2.2.2.2.2.2.2.2.1, a.2.2.2.2.2.2.2.2.2.1, a.2.2.2.2.2.2.2.2.2.2.1, a.2.2.2.2.2.2.2.2.2.2.2.1, a.2.2.2.2.2.2.2.2.2.2.2.2⟩) (fun a => rfl) (opens_struct (d := (Kd.pair k31 (Kd.pair k31 (Kd.pair Kd.string (Kd.pair Kd.bool (Kd.pair (Kd.int .i64) (Kd.pair (Kd.int .i64) (Kd.pair (Kd.int .i64) (Kd.pair Kd.string (Kd.pair Kd.string (Kd.pair (Kd.int .i64) (Kd.pair (Kd.int .i64) (Kd.pair (Kd.int .i64) Kd.bool))))))))))))) Try.underlying34 (by kernel_rfl) (opF_cons rfl (opens_iso (β := S31) (f := fun x : S31 => (x.f0, x.f1, x.f2)) (fun a => ⟨a.1, a.2.1, a.2.2⟩) (fun a => rfl) (opens_struct (d := (Kd.pair (Kd.int .i64) (Kd.pair (Kd.int .i64) (Kd.int .i64)))) Try.underlying31 (by kernel_rfl) (opF_cons rfl (opens_int (k := .i64) Try.underlying3 (by kernel_rfl)) rfl (opF_cons rfl (opens_int (k := .i64) Try.underlying3 (by kernel_rfl)) rfl (opF_one rfl (opens_int (k := .i64) Try.underlying3 (by kernel_rfl))))))) rfl (opF_cons rfl (opens_iso (β := S31) (f := fun x : S31 => (x.f0, x.f1, x.f2)) (fun a => ⟨a.1, a.2.1, a.2.2⟩) (fun a => rfl) (opens_struct (d := (Kd.pair (Kd.int .i64) (Kd.pair (Kd.int .i64) (Kd.int .i64)))) Try.underlying31 (by kernel_rfl) (opF_cons rfl (opens_int (k := .i64) Try.underlying3 (by kernel_rfl)) rfl (opF_cons rfl (opens_int (k := .i64) Try.underlying3 (by kernel_rfl)) rfl (opF_one rfl (opens_int (k := .i64) Try.underlying3 (by kernel_rfl))))))) rfl (opF_cons rfl (opens_string Try.underlying9 (by kernel_rfl)) rfl (opF_cons rfl (opens_bool Try.underlying4 (by kernel_rfl)) rfl (opF_cons rfl (opens_int (k := .i64) Try.underlying3 (by kernel_rfl)) rfl (opF_cons rfl (opens_int (k := .i64) Try.underlying3 (by kernel_rfl)) rfl (opF_cons rfl (opens_int (k := .i64) Try.underlying3 (by kernel_rfl)) rfl (opF_cons rfl (opens_string Try.underlying9 (by kernel_rfl)) rfl (opF_cons rfl (opens_string Try.underlying9 (by kernel_rfl)) rfl (opF_cons rfl (opens_int (k := .i64) Try.underlying3 (by kernel_rfl)) rfl (opF_cons rfl (opens_int (k := .i64) Try.underlying3 (by kernel_rfl)) rfl (opF_cons rfl (opens_int (k := .i64) Try.underlying3 (by kernel_rfl)) rfl (opF_one rfl (opens_bool Try.underlying4 (by kernel_rfl))))))))))))))))
set_option maxRecDepth 100000 in
theorem opn3 : Opens Try.prog 31 (Kd.pair (Kd.int .i64) (Kd.pair (Kd.int .i64) (Kd.int .i64))) (fun x => ((Lit.int .i64 x.1).wf = true ∧ ((Lit.int .i64 x.2.1).wf = true ∧ (Lit.int .i64 x.2.2).wf = true))) := opens_struct (d := (Kd.pair (Kd.int .i64) (Kd.pair (Kd.int .i64) (Kd.int .i64)))) Try.underlying31 (by kernel_rfl) (opF_cons rfl (opens_int (k := .i64) Try.underlying3 (by kernel_rfl)) rfl (opF_cons rfl (opens_int (k := .i64) Try.underlying3 (by kernel_rfl)) rfl (opF_one rfl (opens_int (k := .i64) Try.underlying3 (by kernel_rfl)))))
set_option maxRecDepth 100000 in
theorem lifted (os : Os) (started : os.Started) (H : Type) (enc : TypeId × Value → H) :
    ReturnsInHanded {} Try.checked os 4 .any (Rows.prorataTrueSpec.pre6 enc Try.prog Try.f4 Rows.prorataTrueRow.domain false) (Rows.prorataTrueSpec.post enc Try.prog Try.f4 false true false false) := by
  refine returnsInHanded_of_change_sized (C := Try.checked) own started (by kernel_rfl) Try.func4
    (ChangeSpec.witness6 (enc := enc) (C := Try.checked) false ⟨#[], #[.slice none 0 0, .int .i64 0, .int .i64 0, .agg #[.int .i64 0, .int .i64 0, .int .i64 0]], []⟩ 8 (by kernel_rfl) (by kernel_rfl) (by kernel_rfl) (by kernel_rfl)) ?_
  intro W base args ds gs before hval0 hW hcnd hsz0 _
  have hsz : (DataW.weightsEach Try.prog (Try.f4.params.toList ++ Rows.prorataTrueSpec.plain.varTypes Try.prog) (ds ++ gs)).all (· ≤ reachBytes) = true := hsz0
  have hval : ∀ (j : Nat) t v, Try.f4.params[j]? = some t → args[j]? = some v → Value.okWide Try.prog W .any base t v := hval0
  have hW' := hW
  obtain ⟨p, q, hA0, hV, rfl, hfz, hnd⟩ := hW
  have hA : DataW.TrodAll enc Try.prog W 0 (fun _ => true) true Try.f4.params.toList args.toList ds p := hA0
  rw [Try.params4] at hA hval hsz
  obtain ⟨v0, vs0, d0, ds0, p0, q0, hargs, rfl, rfl, h0, r0⟩ := trodAll_cons hA
  obtain ⟨v1, vs1, d1, ds1, p1, q1, rfl, rfl, rfl, h1, r1⟩ := trodAll_cons r0
  obtain ⟨v2, vs2, d2, ds2, p2, q2, rfl, rfl, rfl, h2, r2⟩ := trodAll_cons r1
  obtain ⟨v3, vs3, d3, ds3, p3, q3, rfl, rfl, rfl, h3, r3⟩ := trodAll_cons r2
  obtain ⟨rfl, rfl, rfl⟩ := trodAll_nil r3
  obtain rfl : args = #[v0, v1, v2, v3] := by cases args; simp_all
  obtain ⟨rfl, rfl⟩ := trodVars_none hV
  obtain ⟨a0, len0, cap0, rfl⟩ := okWide_slice Try.underlying29 (hval 0 29 v0 rfl rfl)
  have k0 := h0
  have lt0 : ∀ x ∈ p0, x.block < W.heap.size := by obtain ⟨m, hm⟩ := k0; exact DataW.trod_lt m _ _ _ hm
  have y0 : len0 * 160 ≤ 140737488351232 := sized_row hsz (j := 0) (t := 29) rfl rfl Try.underlying29 (by kernel_rfl) h0
  obtain ⟨l0, rfl, hr0, hc0, hm0, hg0⟩ := opens_row Try.underlying29 opn0 h0
  obtain ⟨a1, rfl, rfl, rfl, w1⟩ := open_int Try.underlying3 (hval 1 3 v1 rfl rfl) h1
  obtain ⟨a2, rfl, rfl, rfl, w2⟩ := open_int Try.underlying3 (hval 2 3 v2 rfl rfl) h2
  obtain ⟨c3, rfl, _⟩ := okWide_struct Try.underlying31 (hval 3 31 v3 rfl rfl)
  have k3 := h3
  have lt3 : ∀ x ∈ p3, x.block < W.heap.size := by obtain ⟨m, hm⟩ := k3; exact DataW.trod_lt m _ _ _ hm
  obtain ⟨a3_0, a3_1, a3_2, e3, g3_0, g3_1, g3_2⟩ : ∃ (a3_0 : Int) (a3_1 : Int) (a3_2 : Int), c3 = #[.int .i64 a3_0, .int .i64 a3_1, .int .i64 a3_2] ∧ ((Lit.int .i64 a3_0).wf = true) ∧ ((Lit.int .i64 a3_1).wf = true) ∧ ((Lit.int .i64 a3_2).wf = true) := by
    obtain ⟨fuel, hf⟩ := h3
    obtain ⟨⟨a3_0, a3_1, a3_2⟩, hk, hg⟩ := opn3.2 _ _ _ _ _ _ _ _ _ hf
    obtain ⟨g3_0, g3_1, g3_2⟩ := hg
    have hk2 : c3.toList = [.int .i64 a3_0, .int .i64 a3_1, .int .i64 a3_2] := by
      have hk3 := hk
      obtain ⟨cc, hcc⟩ : ∃ cc, cc = (Value.agg c3).cells.toList := ⟨_, rfl⟩
      rw [← hcc] at hk3
      have e : cc = [.int .i64 a3_0, .int .i64 a3_1, .int .i64 a3_2] := by
        obtain ⟨_, _, rfl, rfl, ⟨_, _, rfl, rfl, rfl⟩⟩ := hk3
        rfl
      rw [← e, hcc]; rfl
    exact ⟨a3_0, a3_1, a3_2, Array.toList_inj.1 hk2, g3_0, g3_1, g3_2⟩
  subst e3
  clear hA0 hval0 hsz0 hsz
  have h := Pure.ProrataTrue l0 a1 a2 a3_0 a3_1 a3_2 hm0 y0 hg0 w1 w2 g3_0 g3_1 g3_2
  refine (octroilaw28_ProrataTrue.calls _ _ l0 a1 a2 a3_0 a3_1 a3_2 true W hr0 hc0 h).mono fun e W' he => ?_
  obtain ⟨rfl, bel0⟩ := he
  have bel : Below W.heap.size W W' := bel0
  exact ⟨_, rfl, _, _, _, [], _, [], hW', trodAll_mk1 (shut_bool Try.underlying4 _), trodAll_cons_mk (Below.trod laidOut (by kernel_rfl) (of_decide_eq_true (by kernel_rfl)) k0 bel lt0) (trodAll_cons_mk (shut_int Try.underlying3 w1) (trodAll_cons_mk (shut_int Try.underlying3 w2) (trodAll_cons_mk (Below.trod laidOut (by kernel_rfl) (of_decide_eq_true (by kernel_rfl)) k3 bel lt3) (trodAll_mk0)))), rfl, bel.frame _, fun h => by cases h⟩
theorem over : Rows.prorataTrueRow.holds Try.pinned (OpenSpec.ofChange Rows.prorataTrueSpec) :=
  OpenClaim.holds_of_wide 4 Try.f4 rfl rfl rfl rfl rfl rfl rfl ⟨rfl, rfl, rfl, rfl, rfl⟩ rfl rfl rfl rfl rfl (by kernel_rfl) Try.func4 (by kernel_rfl)
    (of_decide_eq_true (by kernel_rfl)) (by unfold Func.isWrapper; first | (rw [if_pos (by decide +kernel)]; kernel_rfl) | (rw [if_neg (by decide +kernel)]; exact ⟨rfl, rfl⟩))
    (fun os started H enc _ => lifted os started H enc)
theorem proved : Rows.ProrataTrueSaid := over
#print axioms proved
end Go.Proofs.Ytiajknfbbchfmaa.prorataTrue
namespace Go.Proofs.Ytiajknfbbchfmaa
theorem prorataTrue_holds : Rows.ProrataTrueSaid := prorataTrue.proved
end Go.Proofs.Ytiajknfbbchfmaa
