/- (*timeline.Line).All: what it hands to a loop's body. -/
import Derived.RangeFuncNested
import Derived.RangeFuncBound
import Derived.RangeFuncCalls
import Derived.RangeFuncLeaves
import Derived.Shelf.Abstract
import Derived.Shelf.RegionOpen
import Derived.WalkKit
import Derived.OwnWalkIn
import Derived.TacticsInMore
import Derived.LoopNIn
import Derived.LoopIn
import Derived.Lib.Hide
import Derived.Test.YtbmapmigiokbcaaProg
import Derived.Test.YtbmapmigiokbcaaX0
namespace Go.Proofs.Ytbmapmigiokbcaa.Print
open Go Go.RowKit Go.Shelf
set_option linter.unusedVariables false
set_option linter.unusedSimpArgs false
attribute [local go_sem] Oper.semAt_some
abbrev HV := Int × Int × Int
theorem none_line (T : Nat) (most : Int) (w : World) (hm : most ≠ 0) (hc : w.cell? ⟨T, 1, none⟩ = some (.int .i64 most)) :
    Calls Try.prog 21 #[.pointer (some ⟨T, 0, none⟩)] w fun e w' => e = .returned (.bool false) ∧ w' = w := by
  go_enter Try.func21, Try.ntmps21
  go_wp2
  go_ret
  exact ⟨by simp [hm], rfl⟩
theorem all_line (p : Option Addr) (w : World) :
    Calls Try.prog 26 #[.pointer p] w fun e w' => e = .returned (.func (.func 33) #[] #[.pointer (some ⟨w.heap.size, 0, none⟩)]) ∧ w' = w.alloc (.cells #[.pointer p] 32) := by
  go_enter Try.func26, Try.ntmps26
  go_wp2
  go_ret
  exact ⟨rfl, rfl⟩
def uptoH (f : Nat → HV) (k : Nat) : List HV := (List.range k).map f
theorem uptoH_succ (f : Nat → HV) (k : Nat) : uptoH f (k + 1) = uptoH f k ++ [f k] := by simp [uptoH, List.range_succ]
theorem uptoH_length (f : Nat → HV) (k : Nat) : (uptoH f k).length = k := by simp [uptoH]
def encH (x : HV) : Array Value := #[.agg #[.int .i64 x.1, .int .i64 x.2.1], .int .i64 x.2.2]
set_option maxRecDepth 100000 in
set_option maxHeartbeats 2000000 in
theorem all1_line (n l Bs T n₀ b len cap : Nat) (most : Int) (zs : List HV) (hm : most ≠ 0) (hn : 1 ≤ n) (hb : b < n₀) (J Jx : List HV → World → Prop) (hreach : len ≤ 1000000000)
    (W : World) (hn0 : n₀ ≤ W.heap.size) (hJ : AbidesFrom W.heap.size J)
    (hY : ∀ pre x W, J pre W → pre.length < len → YieldAt Fence.wide (n - 1) Try.prog l (encH x) W fun e W' =>
      (e = .returned (.bool true) ∧ J (pre ++ [x]) W' ∧ Below n₀ W W') ∨ (e = .returned (.bool false) ∧ Jx (pre ++ [x]) W'))
    (hBs : W.cell? ⟨Bs, 0, none⟩ = some (.pointer (some ⟨T, 0, none⟩))) (hl : W.cell? ⟨T, 0, none⟩ = some (.slice (some ⟨b, 0, none⟩) len cap)) (hmost : W.cell? ⟨T, 1, none⟩ = some (.int .i64 most))
    (hc : ∀ j, j < len → W.cell? ⟨b, j * 3, none⟩ = some (.int .i64 (zs[j]?.getD (0, 0, 0)).1) ∧ W.cell? ⟨b, j * 3 + 1, none⟩ = some (.int .i64 (zs[j]?.getD (0, 0, 0)).2.1) ∧ W.cell? ⟨b, j * 3 + 2, none⟩ = some (.int .i64 (zs[j]?.getD (0, 0, 0)).2.2)) (h0 : J [] W) :
    CallsIn Fence.wide n Try.prog 33 #[.func (.yield l) #[] #[], .pointer (some ⟨Bs, 0, none⟩)] W fun e W' => (∃ v, e = .returned v) ∧
      ((∃ ys, ys = uptoH (fun j => zs[j]?.getD (0, 0, 0)) len ∧ J ys W') ∨ (∃ pre, (∃ k, k ≤ len ∧ pre = uptoH (fun j => zs[j]?.getD (0, 0, 0)) k) ∧ Jx pre W')) := by
  refine callsIn_of_wp Try.func33 rfl trivial ?_ rfl
  simp only [Try.ntmps33, List.size_toArray, List.length_cons, List.length_nil, Nat.reduceAdd, Nat.reduceSub, Array.replicate_succ, Array.replicate_zero, List.push_toArray, List.append_toArray, List.nil_append, List.cons_append]
  gi_wp2_with (refine ⟨trivial, ?_⟩; gi_at_call 21; refine (callsIn_wide.2 (none_line T most _ hm hmost)).mono ?_; rintro e w' ⟨rfl, hww⟩; rw [hww]; clear hww w')
  gi_loopw [12] (fun i wr => ∃ k : Nat, k ≤ len ∧ i = .int .i64 k ∧ J (uptoH (fun j => zs[j]?.getD (0, 0, 0)) k) wr ∧ Below n₀ W wr ∧ W.heap.size ≤ wr.heap.size)
    (fun i _ => len - (intOf i).toNat)
  case atStart => exact ⟨0, Nat.zero_le _, rfl, h0, Below.refl _ _, Nat.le_refl _⟩
  case round =>
    obtain ⟨k, hk, rfl, hJs, hnx, hsz⟩ := hrel
    by_cases hlt : k < len
    · obtain ⟨c0, c1, c2⟩ := hc k hlt
      have d0 := (hnx.cell (p := ⟨b, k * 3, none⟩) hb).trans c0
      have d1 := (hnx.cell (p := ⟨b, k * 3 + 1, none⟩) hb).trans c1
      have d2 := (hnx.cell (p := ⟨b, k * 3 + 2, none⟩) hb).trans c2
      have hsz0 : n₀ ≤ wr.heap.size := Nat.le_trans hn0 hsz
      obtain ⟨wn, hwn⟩ : ∃ wn, wn = wr.alloc (.cells #[.int .i64 (zs[k]?.getD (0, 0, 0)).1, .int .i64 (zs[k]?.getD (0, 0, 0)).2.1, .int .i64 (zs[k]?.getD (0, 0, 0)).2.2] 55) := ⟨_, rfl⟩
      have hJ2 : J (uptoH (fun j => zs[j]?.getD (0, 0, 0)) k) wn := by rw [hwn]; exact hJ _ wr _ none hJs (World.grownBy_alloc wr _ none) (fun r e => by cases e)
      have hB2 : Below n₀ W wn := by rw [hwn]; exact hnx.alloc (by omega) _
      have hs2 : W.heap.size ≤ wn.heap.size := by rw [hwn]; simp; omega
      obtain ⟨fn, tmps, assign, body, hy, hR⟩ := hY _ (zs[k]?.getD (0, 0, 0)) wn hJ2 (by rw [uptoH_length]; exact hlt)
      unfold encH at hy
      rw [hwn] at hy hR
      gi_wp2
      refine hR.mono ?_
      rintro e W3 (⟨rfl, hJ3, hk3⟩ | ⟨rfl, hJx3⟩)
      · rw [← hwn] at hk3
        gi_wp2
        go_roundw
        case rel => exact ⟨k + 1, by omega, by simp, by rw [uptoH_succ]; exact hJ3, hB2.trans hk3, Nat.le_trans hs2 hk3.size⟩
        case measure => simp [intOf]; omega
      · gi_wp2
        refine bodyPost_ret (results_none rfl _ _ _) rfl ?_
        exact ⟨⟨_, rfl⟩, .inr ⟨_, ⟨k + 1, by omega, (uptoH_succ _ _).symm⟩, hJx3⟩⟩
    · obtain rfl : k = len := by omega
      gi_wp2
      go_end0
      exact ⟨⟨_, rfl⟩, .inl ⟨_, rfl, hJs⟩⟩
set_option maxRecDepth 100000 in
set_option maxHeartbeats 2000000 in
theorem all1_nil (n l Bs T : Nat) (most : Int) (hn : 1 ≤ n) (hm : most ≠ 0) (J : List HV → World → Prop) (W : World) (hBs : W.cell? ⟨Bs, 0, none⟩ = some (.pointer (some ⟨T, 0, none⟩))) (hl : W.cell? ⟨T, 0, none⟩ = some (.slice none 0 0)) (hmost : W.cell? ⟨T, 1, none⟩ = some (.int .i64 most)) (h0 : J [] W) :
    CallsIn Fence.wide n Try.prog 33 #[.func (.yield l) #[] #[], .pointer (some ⟨Bs, 0, none⟩)] W fun e W' => (∃ v, e = .returned v) ∧ J [] W' := by
  refine callsIn_of_wp Try.func33 rfl trivial ?_ rfl
  simp only [Try.ntmps33, List.size_toArray, List.length_cons, List.length_nil, Nat.reduceAdd, Nat.reduceSub, Array.replicate_succ, Array.replicate_zero, List.push_toArray, List.append_toArray, List.nil_append, List.cons_append]
  gi_wp2_with (refine ⟨trivial, ?_⟩; gi_at_call 21; refine (callsIn_wide.2 (none_line T most _ hm hmost)).mono ?_; rintro e w' ⟨rfl, hww⟩; rw [hww]; clear hww w')
  gi_loopw [12] (fun i wr => i = .int .i64 0 ∧ J [] wr) (fun _ _ => 0)
  case atStart => exact ⟨rfl, h0⟩
  case round =>
    obtain ⟨rfl, hJs⟩ := hrel
    gi_wp2
    go_end0
    exact ⟨⟨_, rfl⟩, hJs⟩
def RowAt (n₀ : Nat) (W : World) (sv : Value) (zs : List HV) : Prop :=
  (sv = .slice none 0 0 ∧ zs = []) ∨ ∃ b cap, sv = .slice (some ⟨b, 0, none⟩) zs.length cap ∧ b < n₀ ∧ ∀ j, j < zs.length → W.cell? ⟨b, j * 3, none⟩ = some (.int .i64 (zs[j]?.getD (0, 0, 0)).1) ∧ W.cell? ⟨b, j * 3 + 1, none⟩ = some (.int .i64 (zs[j]?.getD (0, 0, 0)).2.1) ∧ W.cell? ⟨b, j * 3 + 2, none⟩ = some (.int .i64 (zs[j]?.getD (0, 0, 0)).2.2)
theorem RowAt.below {n₀ : Nat} {A B : World} (h : Below n₀ A B) {sv : Value} {zs : List HV} : RowAt n₀ A sv zs → RowAt n₀ B sv zs
  | .inl e => .inl e
  | .inr ⟨b, cap, e, hb, hc⟩ => .inr ⟨b, cap, e, hb, fun j hj => ⟨(h.cell (p := ⟨b, j * 3, none⟩) hb).trans (hc j hj).1, (h.cell (p := ⟨b, j * 3 + 1, none⟩) hb).trans (hc j hj).2.1, (h.cell (p := ⟨b, j * 3 + 2, none⟩) hb).trans (hc j hj).2.2⟩⟩
theorem uptoH_all (zs : List HV) : uptoH (fun j => zs[j]?.getD (0, 0, 0)) zs.length = zs := by
  apply List.ext_getElem
  · simp [uptoH]
  · intro i h1 h2
    simp [uptoH, h2]
theorem uptoH_take (zs : List HV) {k : Nat} (hk : k ≤ zs.length) : uptoH (fun j => zs[j]?.getD (0, 0, 0)) k = zs.take k := by
  apply List.ext_getElem
  · simp [uptoH, hk]
  · intro i h1 h2
    have : i < zs.length := by simp [uptoH] at h1; omega
    simp [uptoH, this]
theorem all_stops (n : Nat) (hn : 1 ≤ n) (Bs T n₀ : Nat) (sv : Value) (most : Int) (hm : most ≠ 0) (zs : List HV) (hreach : zs.length ≤ 1000000000) (w : World) (hBs : Bs < w.heap.size) (hT : T < w.heap.size) (hn₀ : n₀ ≤ w.heap.size)
    (hc : w.cell? ⟨Bs, 0, none⟩ = some (.pointer (some ⟨T, 0, none⟩))) (hl : w.cell? ⟨T, 0, none⟩ = some sv) (hmost : w.cell? ⟨T, 1, none⟩ = some (.int .i64 most)) (hI : RowAt n₀ w sv zs) :
    SeqStopsK Fence.wide n Try.prog 33 #[.pointer (some ⟨Bs, 0, none⟩)] encH (Below n₀) (fun ys => ys = zs) (fun pre => pre <+: zs) zs.length w := fun l J Jx W hW hJ _ hY h0 => by
  have hc' := (hW.cell (p := ⟨Bs, 0, none⟩) hBs).trans hc
  have hl' := (hW.cell (p := ⟨T, 0, none⟩) hT).trans hl
  have hm' := (hW.cell (p := ⟨T, 1, none⟩) hT).trans hmost
  rcases hI.below (hW.mono hn₀) with ⟨rfl, rfl⟩ | ⟨b, cap, rfl, hb, hcs⟩
  · exact (all1_nil n l Bs T most hn hm J W hc' hl' hm' h0).mono fun e W' ⟨he, hj⟩ => ⟨he, .inl ⟨_, rfl, hj⟩⟩
  · refine (all1_line n l Bs T n₀ b zs.length cap most zs hm hn hb J Jx hreach W (Nat.le_trans hn₀ hW.size) hJ hY hc' hl' hm' hcs h0).mono ?_
    rintro e W' ⟨he, ⟨ys, rfl, hj⟩ | ⟨pre, ⟨k, hk, rfl⟩, hj⟩⟩
    · exact ⟨he, .inl ⟨_, uptoH_all zs, hj⟩⟩
    · exact ⟨he, .inr ⟨_, by rw [uptoH_take zs hk]; exact List.take_prefix _ _, hj⟩⟩
end Go.Proofs.Ytbmapmigiokbcaa.Print
