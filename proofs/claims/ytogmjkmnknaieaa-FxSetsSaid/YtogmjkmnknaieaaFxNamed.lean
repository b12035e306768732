/- fx.named: three bytes, each a capital letter. -/
import Derived.Test.YtogmjkmnknaieaaX0
import Derived.Outline
import Derived.Lib.Hide
import Derived.Lib.ConvBytes
import Derived.Laws.Externs
namespace Go.Proofs.Ytogmjkmnknaieaa.Print
open Go.RowKit Go.Proofs.YtogmjkmnknaieaaW.PrintWords Go.Proofs.YtogmjkmnknaieaaW.PrintLast Go.Proofs.YtogmjkmnknaieaaW.PrintMore
set_option linter.unusedVariables false
set_option linter.unusedSimpArgs false
def capB (b : Int) : Bool := decide (65 ≤ b) && decide (b ≤ 90)
def byteI (s : ByteArray) (j : Nat) : Int := ((s.data.toList.getD j 0).toNat : Int)
def namedV (s : ByteArray) : Bool := s.size == 3 && (capB (byteI s 0) && (capB (byteI s 1) && capB (byteI s 2)))
theorem bytes_below (w : World) (e : TypeId) (s : ByteArray) : Below w.heap.size w (Lib.bytesWorld w e s) :=
  ⟨rfl, rfl, rfl, by rw [Lib.bytesWorld_size]; omega, fun k hk => Lib.bytesWorld_at_old w e s k hk⟩
set_option maxHeartbeats 1000000 in
theorem named_any (s : ByteArray) (w : World) :
    Calls Try.prog 17 #[.string s] w fun e w' => e = .returned (.bool (namedV s)) ∧ Below w.heap.size w w' := by
  by_cases hs : s.size = 3
  · have hconv := Lib.run_convert_string_bytes (P := Try.prog) w 9 65 5 s Try.underlying9 Try.underlying65 Try.underlying5
    obtain ⟨W, hW⟩ : ∃ W, W = Lib.bytesWorld w 5 s := ⟨_, rfl⟩
    have hc : ∀ j, j < 3 → W.cell? ⟨w.heap.size, j, none⟩ = some (.int .u8 (byteI s j)) := fun j hj => by rw [hW]; exact Lib.bytesWorld_cell w _ s j (by omega)
    have hb : Below w.heap.size w W := by rw [hW]; exact bytes_below w _ s
    rw [← hW, hs] at hconv
    obtain ⟨b0, hb0⟩ : ∃ b0, b0 = byteI s 0 := ⟨_, rfl⟩
    obtain ⟨b1, hb1⟩ : ∃ b1, b1 = byteI s 1 := ⟨_, rfl⟩
    obtain ⟨b2, hb2⟩ : ∃ b2, b2 = byteI s 2 := ⟨_, rfl⟩
    have h0 := hc 0 (by decide)
    have h1 := hc 1 (by decide)
    have h2 := hc 2 (by decide)
    rw [← hb0] at h0
    rw [← hb1] at h1
    rw [← hb2] at h2
    have hv : namedV s = (capB b0 && (capB b1 && capB b2)) := by unfold namedV; rw [hb0, hb1, hb2, hs]; rfl
    rw [hv]
    clear hv hc hb0 hb1 hb2
    unfold capB
    have Hb := Lib.hid hb
    clear hb
    have e3 : (s.size : Int) = 3 := by omega
    go_enter Try.func17, Try.ntmps17
    go_wp2
    rw [← hW]
    clear hW hconv
    refine wp_loop_rounds 4 ?_
    iterate 4
      all_goals (first | (rw [rounds_succ]; go_wp2) | skip)
    all_goals go_ret
    all_goals (refine ⟨?_, Hb.out⟩)
    all_goals (first | refine congrArg (fun b => Ending.returned (Value.bool b)) (show false = _ from ?_) | refine congrArg (fun b => Ending.returned (Value.bool b)) (show true = _ from ?_))
    all_goals
      rw [Bool.eq_iff_iff]
      simp only [Bool.and_eq_true, decide_eq_true_eq, Bool.false_eq_true, false_iff, true_iff]
      omega
  · have hn : namedV s = false := by unfold namedV; rw [show (s.size == 3) = false from by simpa using hs]; rfl
    go_enter Try.func17, Try.ntmps17
    have hs' : ¬ (s.size : Int) = 3 := by omega
    go_wp2
    go_ret
    exact ⟨by rw [hn]; rfl, Below.refl _ _⟩
end Go.Proofs.Ytogmjkmnknaieaa.Print
