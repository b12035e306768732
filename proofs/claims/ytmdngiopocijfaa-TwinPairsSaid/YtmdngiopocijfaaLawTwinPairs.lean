/- The row of the law TwinPairs, by a program of this session's (wip/lawrow.py), over its pure statement and its walk. -/
import Derived.Test.YtmdngiopocijfaaRows
import Derived.Test.YtmdngiopocijfaaPureTwinPairs
import Derived.Test.YtmdngiopocijfaaOpen
import Derived.SizedLaws
import Derived.ChangeSlices
import Derived.WalkKit
import Derived.ProofKit
import Derived.OpenShut
import Derived.ShutString
import Derived.ChangeOld
import Derived.Below
namespace Go.Proofs.Ytmdngiopocijfaa.twinPairs
open Go.ChangeShapes Go.WideShapes Go.ChangeAt Go.RowKit Go.Proofs.Ytmdngiopocijfaa.Print Go.Proofs.YtmdngiopocijfaaW.PrintWords Go.Proofs.YtmdngiopocijfaaW.PrintLast
open Go.ChangeMaps (open_string shut_string)
set_option linter.unusedVariables false
set_option linter.unusedSimpArgs false
theorem own : ownKnob Try.prog.godebug = none := by kernel_rfl
theorem laidOut : laidOutB Try.prog = true := by kernel_rfl
set_option maxRecDepth 100000 in
theorem opn0 : Opens Try.prog 25 (Kd.pair (Kd.pair (Kd.int .i64) (Kd.pair (Kd.int .i64) (Kd.int .i64))) (Kd.pair (Kd.pair (Kd.int .i64) (Kd.pair (Kd.int .i64) (Kd.int .i64))) (Kd.pair Kd.string (Kd.pair Kd.bool (Kd.pair (Kd.int .i64) (Kd.pair (Kd.int .i64) (Kd.pair (Kd.int .i64) (Kd.pair Kd.string (Kd.pair Kd.string (Kd.pair (Kd.int .i64) (Kd.pair (Kd.int .i64) (Kd.pair (Kd.int .i64) Kd.bool)))))))))))) (fun x => (((Lit.int .i64 x.1.1).wf = true ∧ ((Lit.int .i64 x.1.2.1).wf = true ∧ (Lit.int .i64 x.1.2.2).wf = true)) ∧ (((Lit.int .i64 x.2.1.1).wf = true ∧ ((Lit.int .i64 x.2.1.2.1).wf = true ∧ (Lit.int .i64 x.2.1.2.2).wf = true)) ∧ (x.2.2.1.size ≤ maxLen ∧ (True ∧ ((Lit.int .i64 x.2.2.2.2.1).wf = true ∧ ((Lit.int .i64 x.2.2.2.2.2.1).wf = true ∧ ((Lit.int .i64 x.2.2.2.2.2.2.1).wf = true ∧ (x.2.2.2.2.2.2.2.1.size ≤ maxLen ∧ (x.2.2.2.2.2.2.2.2.1.size ≤ maxLen ∧ ((Lit.int .i64 x.2.2.2.2.2.2.2.2.2.1).wf = true ∧ ((Lit.int .i64 x.2.2.2.2.2.2.2.2.2.2.1).wf = true ∧ ((Lit.int .i64 x.2.2.2.2.2.2.2.2.2.2.2.1).wf = true ∧ True))))))))))))) := opens_struct (d := (Kd.pair (Kd.pair (Kd.int .i64) (Kd.pair (Kd.int .i64) (Kd.int .i64))) (Kd.pair (Kd.pair (Kd.int .i64) (Kd.pair (Kd.int .i64) (Kd.int .i64))) (Kd.pair Kd.string (Kd.pair Kd.bool (Kd.pair (Kd.int .i64) (Kd.pair (Kd.int .i64) (Kd.pair (Kd.int .i64) (Kd.pair Kd.string (Kd.pair Kd.string (Kd.pair (Kd.int .i64) (Kd.pair (Kd.int .i64) (Kd.pair (Kd.int .i64) Kd.bool))))))))))))) Try.underlying25 (by kernel_rfl) (opF_cons rfl (opens_struct (d := (Kd.pair (Kd.int .i64) (Kd.pair (Kd.int .i64) (Kd.int .i64)))) Try.underlying23 (by kernel_rfl) (opF_cons rfl (opens_int (k := .i64) Try.underlying3 (by kernel_rfl)) rfl (opF_cons rfl (opens_int (k := .i64) Try.underlying3 (by kernel_rfl)) rfl (opF_one rfl (opens_int (k := .i64) Try.underlying3 (by kernel_rfl)))))) rfl (opF_cons rfl (opens_struct (d := (Kd.pair (Kd.int .i64) (Kd.pair (Kd.int .i64) (Kd.int .i64)))) Try.underlying23 (by kernel_rfl) (opF_cons rfl (opens_int (k := .i64) Try.underlying3 (by kernel_rfl)) rfl (opF_cons rfl (opens_int (k := .i64) Try.underlying3 (by kernel_rfl)) rfl (opF_one rfl (opens_int (k := .i64) Try.underlying3 (by kernel_rfl)))))) rfl (opF_cons rfl (opens_string Try.underlying9 (by kernel_rfl)) rfl (opF_cons rfl (opens_bool Try.underlying4 (by kernel_rfl)) rfl (opF_cons rfl (opens_int (k := .i64) Try.underlying3 (by kernel_rfl)) rfl (opF_cons rfl (opens_int (k := .i64) Try.underlying3 (by kernel_rfl)) rfl (opF_cons rfl (opens_int (k := .i64) Try.underlying3 (by kernel_rfl)) rfl (opF_cons rfl (opens_string Try.underlying9 (by kernel_rfl)) rfl (opF_cons rfl (opens_string Try.underlying9 (by kernel_rfl)) rfl (opF_cons rfl (opens_int (k := .i64) Try.underlying3 (by kernel_rfl)) rfl (opF_cons rfl (opens_int (k := .i64) Try.underlying3 (by kernel_rfl)) rfl (opF_cons rfl (opens_int (k := .i64) Try.underlying3 (by kernel_rfl)) rfl (opF_one rfl (opens_bool Try.underlying4 (by kernel_rfl)))))))))))))))
set_option maxRecDepth 100000 in
theorem lifted (os : Os) (started : os.Started) (H : Type) (enc : TypeId × Value → H) :
    ReturnsInHanded {} Try.checked os 5 .any (Rows.twinPairsSpec.pre6 enc Try.prog Try.f5 Rows.twinPairsRow.domain false) (Rows.twinPairsSpec.post enc Try.prog Try.f5 false true false false) := by
  refine returnsInHanded_of_change_sized (C := Try.checked) own started (by kernel_rfl) Try.func5
    (ChangeSpec.witness6 (enc := enc) (C := Try.checked) false ⟨#[], #[.agg #[.int .i64 0, .int .i64 0, .int .i64 0, .int .i64 0, .int .i64 0, .int .i64 0, .string ByteArray.empty, .bool false, .int .i64 0, .int .i64 0, .int .i64 0, .string ByteArray.empty, .string ByteArray.empty, .int .i64 0, .int .i64 0, .int .i64 0, .bool false], .int .i64 0], []⟩ 8 (by kernel_rfl) (by kernel_rfl) (by kernel_rfl) (by kernel_rfl)) ?_
  intro W base args ds gs before hval0 hW hcnd hsz0 _
  have hsz : (DataW.weightsEach Try.prog (Try.f5.params.toList ++ Rows.twinPairsSpec.plain.varTypes Try.prog) (ds ++ gs)).all (· ≤ reachBytes) = true := hsz0
  have hval : ∀ (j : Nat) t v, Try.f5.params[j]? = some t → args[j]? = some v → Value.okWide Try.prog W .any base t v := hval0
  have hW' := hW
  obtain ⟨p, q, hA0, hV, rfl, hfz, hnd⟩ := hW
  have hA : DataW.TrodAll enc Try.prog W 0 (fun _ => true) true Try.f5.params.toList args.toList ds p := hA0
  rw [Try.params5] at hA hval hsz
  obtain ⟨v0, vs0, d0, ds0, p0, q0, hargs, rfl, rfl, h0, r0⟩ := trodAll_cons hA
  obtain ⟨v1, vs1, d1, ds1, p1, q1, rfl, rfl, rfl, h1, r1⟩ := trodAll_cons r0
  obtain ⟨rfl, rfl, rfl⟩ := trodAll_nil r1
  obtain rfl : args = #[v0, v1] := by cases args; simp_all
  obtain ⟨rfl, rfl⟩ := trodVars_none hV
  obtain ⟨c0, rfl, _⟩ := okWide_struct Try.underlying25 (hval 0 25 v0 rfl rfl)
  have k0 := h0
  have lt0 : ∀ x ∈ p0, x.block < W.heap.size := by obtain ⟨m, hm⟩ := k0; exact DataW.trod_lt m _ _ _ hm
  obtain ⟨a0_0, a0_1, a0_2, a0_3, a0_4, a0_5, a0_6, a0_7, a0_8, a0_9, a0_10, a0_11, a0_12, a0_13, a0_14, a0_15, a0_16, e0, g0_0, g0_1, g0_2, g0_3, g0_4, g0_5, g0_6, g0_7, g0_8, g0_9, g0_10, g0_11, g0_12, g0_13, g0_14, g0_15, g0_16⟩ : ∃ (a0_0 : Int) (a0_1 : Int) (a0_2 : Int) (a0_3 : Int) (a0_4 : Int) (a0_5 : Int) (a0_6 : ByteArray) (a0_7 : Bool) (a0_8 : Int) (a0_9 : Int) (a0_10 : Int) (a0_11 : ByteArray) (a0_12 : ByteArray) (a0_13 : Int) (a0_14 : Int) (a0_15 : Int) (a0_16 : Bool), c0 = #[.int .i64 a0_0, .int .i64 a0_1, .int .i64 a0_2, .int .i64 a0_3, .int .i64 a0_4, .int .i64 a0_5, .string a0_6, .bool a0_7, .int .i64 a0_8, .int .i64 a0_9, .int .i64 a0_10, .string a0_11, .string a0_12, .int .i64 a0_13, .int .i64 a0_14, .int .i64 a0_15, .bool a0_16] ∧ ((Lit.int .i64 a0_0).wf = true) ∧ ((Lit.int .i64 a0_1).wf = true) ∧ ((Lit.int .i64 a0_2).wf = true) ∧ ((Lit.int .i64 a0_3).wf = true) ∧ ((Lit.int .i64 a0_4).wf = true) ∧ ((Lit.int .i64 a0_5).wf = true) ∧ (a0_6.size ≤ maxLen) ∧ (True) ∧ ((Lit.int .i64 a0_8).wf = true) ∧ ((Lit.int .i64 a0_9).wf = true) ∧ ((Lit.int .i64 a0_10).wf = true) ∧ (a0_11.size ≤ maxLen) ∧ (a0_12.size ≤ maxLen) ∧ ((Lit.int .i64 a0_13).wf = true) ∧ ((Lit.int .i64 a0_14).wf = true) ∧ ((Lit.int .i64 a0_15).wf = true) ∧ (True) := by
    obtain ⟨fuel, hf⟩ := h0
    obtain ⟨⟨⟨a0_0, a0_1, a0_2⟩, ⟨a0_3, a0_4, a0_5⟩, a0_6, a0_7, a0_8, a0_9, a0_10, a0_11, a0_12, a0_13, a0_14, a0_15, a0_16⟩, hk, hg⟩ := opn0.2 _ _ _ _ _ _ _ _ _ hf
    obtain ⟨⟨g0_0, g0_1, g0_2⟩, ⟨g0_3, g0_4, g0_5⟩, g0_6, g0_7, g0_8, g0_9, g0_10, g0_11, g0_12, g0_13, g0_14, g0_15, g0_16⟩ := hg
    have hk2 : c0.toList = [.int .i64 a0_0, .int .i64 a0_1, .int .i64 a0_2, .int .i64 a0_3, .int .i64 a0_4, .int .i64 a0_5, .string a0_6, .bool a0_7, .int .i64 a0_8, .int .i64 a0_9, .int .i64 a0_10, .string a0_11, .string a0_12, .int .i64 a0_13, .int .i64 a0_14, .int .i64 a0_15, .bool a0_16] := by
      have hk3 := hk
      obtain ⟨cc, hcc⟩ : ∃ cc, cc = (Value.agg c0).cells.toList := ⟨_, rfl⟩
      rw [← hcc] at hk3
      have e : cc = [.int .i64 a0_0, .int .i64 a0_1, .int .i64 a0_2, .int .i64 a0_3, .int .i64 a0_4, .int .i64 a0_5, .string a0_6, .bool a0_7, .int .i64 a0_8, .int .i64 a0_9, .int .i64 a0_10, .string a0_11, .string a0_12, .int .i64 a0_13, .int .i64 a0_14, .int .i64 a0_15, .bool a0_16] := by
        obtain ⟨_, _, rfl, ⟨_, _, rfl, rfl, ⟨_, _, rfl, rfl, rfl⟩⟩, ⟨_, _, rfl, ⟨_, _, rfl, rfl, ⟨_, _, rfl, rfl, rfl⟩⟩, ⟨_, _, rfl, rfl, ⟨_, _, rfl, rfl, ⟨_, _, rfl, rfl, ⟨_, _, rfl, rfl, ⟨_, _, rfl, rfl, ⟨_, _, rfl, rfl, ⟨_, _, rfl, rfl, ⟨_, _, rfl, rfl, ⟨_, _, rfl, rfl, ⟨_, _, rfl, rfl, rfl⟩⟩⟩⟩⟩⟩⟩⟩⟩⟩⟩⟩ := hk3
        rfl
      rw [← e, hcc]; rfl
    exact ⟨a0_0, a0_1, a0_2, a0_3, a0_4, a0_5, a0_6, a0_7, a0_8, a0_9, a0_10, a0_11, a0_12, a0_13, a0_14, a0_15, a0_16, Array.toList_inj.1 hk2, g0_0, g0_1, g0_2, g0_3, g0_4, g0_5, g0_6, g0_7, g0_8, g0_9, g0_10, g0_11, g0_12, g0_13, g0_14, g0_15, g0_16⟩
  subst e0
  obtain ⟨a1, rfl, rfl, rfl, w1⟩ := open_int Try.underlying3 (hval 1 3 v1 rfl rfl) h1
  clear hA0 hval0 hsz0 hsz
  have h := Pure.TwinPairs a0_0 a0_1 a0_2 a0_3 a0_4 a0_5 a0_6 a0_7 a0_8 a0_9 a0_10 a0_11 a0_12 a0_13 a0_14 a0_15 a0_16 a1 g0_0 g0_1 g0_2 g0_3 g0_4 g0_5 g0_6 g0_8 g0_9 g0_10 g0_11 g0_12 g0_13 g0_14 g0_15 w1
  refine (octroilaw24_TwinPairs.calls a0_0 a0_1 a0_2 a0_3 a0_4 a0_5 a0_6 a0_7 a0_8 a0_9 a0_10 a0_11 a0_12 a0_13 a0_14 a0_15 a0_16 a1 true W  h).mono fun e W' he => ?_
  obtain ⟨rfl, bel0⟩ := he
  have bel : Below W.heap.size W W' := bel0
  exact ⟨_, rfl, _, _, _, [], _, [], hW', trodAll_mk1 (shut_bool Try.underlying4 _), trodAll_cons_mk (Below.trod laidOut (by kernel_rfl) (of_decide_eq_true (by kernel_rfl)) k0 bel lt0) (trodAll_cons_mk (shut_int Try.underlying3 w1) (trodAll_mk0)), rfl, bel.frame _, fun h => by cases h⟩
theorem over : Rows.twinPairsRow.holds Try.pinned (OpenSpec.ofChange Rows.twinPairsSpec) :=
  OpenClaim.holds_of_wide 5 Try.f5 rfl rfl rfl rfl rfl rfl rfl ⟨rfl, rfl, rfl, rfl, rfl⟩ rfl rfl rfl rfl rfl (by kernel_rfl) Try.func5 (by kernel_rfl)
    (of_decide_eq_true (by kernel_rfl)) (by unfold Func.isWrapper; first | (rw [if_pos (by decide +kernel)]; kernel_rfl) | (rw [if_neg (by decide +kernel)]; exact ⟨rfl, rfl⟩))
    (fun os started H enc _ => lifted os started H enc)
theorem proved : Rows.TwinPairsSaid := over
#print axioms proved
end Go.Proofs.Ytmdngiopocijfaa.twinPairs
namespace Go.Proofs.Ytmdngiopocijfaa
theorem twinPairs_holds : Rows.TwinPairsSaid := twinPairs.proved
end Go.Proofs.Ytmdngiopocijfaa
