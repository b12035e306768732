/- slices.Insert of one held span: a row with it at its place. -/
import Derived.Test.YtbmapmigiokbcaaX0
import Derived.Test.YtbmapmigiokbcaaAx14
import Derived.Shelf.Spec.SlicesInsertGrow
import Derived.Laws.CopyRow
import Derived.Lib.Hide
namespace Go.Proofs.Ytbmapmigiokbcaa.Print
open Go Go.RowKit Go.Lib Go.Proofs.YtbmapmigiokbcaaW.PrintWords Go.Proofs.YtbmapmigiokbcaaW.PrintLast Go.Proofs.YtbmapmigiokbcaaW.PrintMore
set_option linter.unusedVariables false
set_option linter.unusedSimpArgs false
theorem infoH : (Try.prog.info? 55).map (fun i => (i.zero, i.size, i.bytes)) = some (some (.agg #[.int .i64 0, .int .i64 0, .int .i64 0]), 3, 24) := by kernel_rfl
theorem run_copy_sized {P : Program} (w : World) (dT sT ty elem : TypeId) (i : TypeInfo) (g o dLen dCap : Nat) (a : Addr) (sLen sCap : Nat) (cur : Array Value) (t : TypeId) (cs : List Value)
    (hu : P.underlying dT = some (.slice elem)) (hq : P.info? elem = some i)
    (hg : w.heap[g]? = some (.cells cur t (0, 0))) (hn : cs.length = Nat.min sLen dLen * i.size)
    (hsrc : ∀ j v, cs[j]? = some v → w.cell? (a.add j) = some v) (hfit : o + cs.length ≤ cur.size) (h1 : ∀ v ∈ cs, v.oneCell' = true) :
    (Builtin.copy_ #[dT, sT] ty #[.slice (some ⟨g, o, none⟩) dLen dCap, .slice (some a) sLen sCap]).run P w =
      .ok (goInt (Nat.min sLen dLen)) (w.setRow g (cur.toList.take o ++ cs ++ cur.toList.drop (o + cs.length)).toArray) := by
  have hl := run_loadCells_list (P := P) w a cs hsrc
  have hst := run_storeCells_at P g o t cs 0 cur w hg (by simpa using hfit) h1
  simp [Builtin.copy_, run_underlying hu, Builtin.lenOf, Builtin.firstCells, sizeOf, typeInfo, hq, ← hn, hl, hst]
theorem lit_block (w : World) (vb : Nat) (cv : Array Value) (t : TypeId) (h : w.heap[vb]? = some (.cells cv t (0, 0))) : w.shape? vb = some (t, cv.size) ∧ (∀ j, w.frozen? ⟨vb, j, none⟩ = false) := by
  refine ⟨by simp [World.shape?, h], fun j => by simp [World.frozen?, h]⟩
theorem blk_cell' {w : World} {b : Nat} {cur : Array Value} {t : TypeId} {f : Nat × Nat} (h : w.heap[b]? = some (.cells cur t f)) (j : Nat) : w.cell? ⟨b, j, none⟩ = cur[j]? := by simp [World.cell?, h]
set_option maxHeartbeats 4000000 in
set_option maxRecDepth 100000 in
theorem ins_shift (b n c i vb vc : Nat) (cur cv : Array Value) (cs vs : List Value) (w : World) (hi : i < n) (hroom : n + 1 ≤ c) (hbig : n + 1 ≤ 1000000000) (hvb : vb ≠ b)
    (hcl : cs.length = n * 3) (hvl : vs.length = 3) (hcur : w.heap[b]? = some (.cells cur 55 (0, 0))) (hsz : cur.size = c * 3) (hcs : cur.toList.take (n * 3) = cs)
    (hcv : w.heap[vb]? = some (.cells cv 55 (0, 0))) (hvs : cv.toList = vs) (h1c : ∀ v ∈ cs, v.oneCell' = true) (h1v : ∀ v ∈ vs, v.oneCell' = true) :
    Calls Try.prog 23 #[.slice (some ⟨b, 0, none⟩) n c, .int .i64 i, .slice (some ⟨vb, 0, none⟩) 1 vc] w fun e w' =>
      ∃ cur' : Array Value, e = .returned (.slice (some ⟨b, 0, none⟩) (n + 1) c) ∧ cur'.size = c * 3 ∧ cur'.toList.take ((n + 1) * 3) = cs.take (i * 3) ++ vs ++ cs.drop (i * 3) ∧ w' = w.drew.setRow b cur' := by
  obtain ⟨hsa, hff⟩ := lit_block w vb cv _ hcv
  obtain ⟨hsb, hfb⟩ := lit_block w b cur _ hcur
  obtain ⟨i0, hi0, hz0, hzs, hzb⟩ := info_parts infoH
  have u50 := Try.underlying50
  have hov : ∀ lb cb, (callFunc 31 #[.slice (some ⟨vb, 0, none⟩) 1 vc, .slice (some ⟨b, (i + 1) * 3, none⟩) lb cb]).run Try.prog w = .ok (.value (.bool false)) w := fun lb cb => by
    rw [run_callFunc_extern Try.func31 (by kernel_rfl) (by kernel_rfl) (by kernel_rfl) (e := Extern.SlicesOverlaps.overlaps #[50, 50] #[4]) (by kernel_rfl),
      Lib.run_overlaps_apart w 50 4 55 u50 3 (fun w => by simp [sizeOf, typeInfo, hi0, hzs]) ⟨vb, 0, none⟩ ⟨b, (i + 1) * 3, none⟩ 1 vc lb cb hvb _ _ _ _ hsa hsb (by rw [hsz]; omega) (hff 0) (hff _)]
    rfl
  have hz2 : ¬ ((i : Int) = (n : Int)) := by omega
  have hle : ((n : Int) + 1 ≤ (c : Int)) := by omega
  have hwl : w.drew.heap[b]? = some (.cells cur 55 (0, 0)) := hcur
  have hdl : (cs.drop (i * 3)).length = (n - i) * 3 := by rw [List.length_drop, hcl, Nat.sub_mul]
  have hcurl : cur.toList.length = c * 3 := by rw [Array.length_toList, hsz]
  obtain ⟨cur1, hcur1⟩ : ∃ cur1 : Array Value, cur1 = (cur.toList.take ((i + 1) * 3) ++ cs.drop (i * 3) ++ cur.toList.drop ((i + 1) * 3 + (cs.drop (i * 3)).length)).toArray := ⟨_, rfl⟩
  have hs1 : cur1.size = c * 3 := by
    rw [hcur1]
    simp only [List.size_toArray, List.length_append, List.length_take, List.length_drop, hcurl, hcl]
    omega
  have hcp1 : ∀ ty dc sc, (Builtin.copy_ #[50, 50] ty #[.slice (some ⟨b, (i + 1) * 3, none⟩) (n - i) dc, .slice (some ⟨b, i * 3, none⟩) (n + 1 - i) sc]).run Try.prog w.drew = .ok (goInt ((n - i : Nat) : Int)) (w.drew.setRow b cur1) := fun ty dc sc => by
    have hmin : Nat.min (n + 1 - i) (n - i) = n - i := by simp only [Nat.min_def]; split <;> omega
    have := run_copy_sized (P := Try.prog) w.drew 50 50 ty 55 i0 b ((i + 1) * 3) (n - i) dc ⟨b, i * 3, none⟩ (n + 1 - i) sc cur 55 (cs.drop (i * 3)) u50 hi0 hwl (by rw [hmin, hdl, hzs])
      (fun j v hj => by
        rw [Addr.add_lit, blk_cell' hwl]
        rw [List.getElem?_drop, ← hcs, List.getElem?_take] at hj
        split at hj
        · simpa using hj
        · cases hj) (by rw [hdl, hsz]; omega) (fun v hv => h1c v (List.mem_of_mem_drop hv))
    rw [hmin, ← hcur1] at this
    exact this
  obtain ⟨W1, hW1⟩ : ∃ W1, W1 = w.drew.setRow b cur1 := ⟨_, rfl⟩
  have hW1b : W1.heap[b]? = some (.cells cur1 55 (0, 0)) := by rw [hW1]; exact setRow_heap w.drew b cur cur1 _ _ hwl
  have hW1v : W1.heap[vb]? = some (.cells cv 55 (0, 0)) := by rw [hW1, setRow_other _ _ _ _ hvb]; exact hcv
  obtain ⟨cur2, hcur2⟩ : ∃ cur2 : Array Value, cur2 = (cur1.toList.take (i * 3) ++ vs ++ cur1.toList.drop (i * 3 + vs.length)).toArray := ⟨_, rfl⟩
  have hcp2 : ∀ ty dc, (Builtin.copy_ #[50, 50] ty #[.slice (some ⟨b, i * 3, none⟩) (n + 1 - i) dc, .slice (some ⟨vb, 0, none⟩) 1 vc]).run Try.prog W1 = .ok (goInt 1) (W1.setRow b cur2) := fun ty dc => by
    have hmin : Nat.min 1 (n + 1 - i) = 1 := by simp only [Nat.min_def]; split <;> omega
    have := run_copy_sized (P := Try.prog) W1 50 50 ty 55 i0 b (i * 3) (n + 1 - i) dc ⟨vb, 0, none⟩ 1 vc cur1 55 vs u50 hi0 hW1b (by rw [hmin, hvl, hzs])
      (fun j v hj => by
        rw [Addr.add_lit, Nat.zero_add, blk_cell' hW1v, ← Array.getElem?_toList, hvs]; exact hj) (by rw [hvl, hs1]; omega) h1v
    rw [hmin, ← hcur2] at this
    exact this
  have hdone : cur2.size = c * 3 ∧ cur2.toList.take ((n + 1) * 3) = cs.take (i * 3) ++ vs ++ cs.drop (i * 3) := by
    have hc1l : cur1.toList = cur.toList.take ((i + 1) * 3) ++ cs.drop (i * 3) ++ cur.toList.drop ((i + 1) * 3 + (cs.drop (i * 3)).length) := by rw [hcur1]
    have e1 : cur1.toList.take (i * 3) = cs.take (i * 3) := by
      rw [hc1l, List.append_assoc, List.take_append_of_le_length (by rw [List.length_take, hcurl]; omega), List.take_take, ← hcs, List.take_take]
      congr 1
      omega
    have e2 : cur1.toList.drop (i * 3 + vs.length) = cs.drop (i * 3) ++ cur.toList.drop ((i + 1) * 3 + (cs.drop (i * 3)).length) := by
      have hl : (cur.toList.take ((i + 1) * 3)).length = i * 3 + vs.length := by rw [List.length_take, hcurl, hvl]; omega
      rw [hc1l, List.append_assoc, ← hl, List.drop_left]
    have e3 : cur2.toList = cs.take (i * 3) ++ vs ++ (cs.drop (i * 3) ++ cur.toList.drop ((i + 1) * 3 + (cs.drop (i * 3)).length)) := by rw [hcur2, e1, e2]
    refine ⟨?_, ?_⟩
    · rw [← Array.length_toList, e3]
      simp only [List.length_append, List.length_take, List.length_drop, hcurl, hcl, hvl]
      omega
    · rw [e3, ← List.append_assoc]
      have hl : (n + 1) * 3 = (cs.take (i * 3) ++ vs ++ cs.drop (i * 3)).length := by
        simp only [List.length_append, List.length_take, List.length_drop, hcl, hvl]
        omega
      rw [hl, List.take_left]
  rw [← hW1] at hcp1
  have hfin : W1.setRow b cur2 = w.drew.setRow b cur2 := by rw [hW1, setRow_setRow]
  clear hcur1 hcur2 hcs hvs hcur hcv
  have mixed : Try.prog.follows .mixedOrders = true := by kernel_rfl
  have hw1 : IntKind.i64.wrap ((i : Int) + 1) = (i : Int) + 1 := by rw [IntKind.wrap_i64]; omega
  have hb1 : (0 : Int) ≤ (i : Int) + 1 := by omega
  have hin : i ≤ n := by omega
  have htn : ((i : Int) + 1).toNat = i + 1 := by omega
  have hb2 : ¬ (c = i + 1) := by omega
  have hb3 : (i : Int) ≤ (n : Int) + 1 := by omega
  have hb4 : ¬ (c = i) := by omega
  have Hd := Lib.hid (And.intro hdone hfin)
  clear hdone hfin
  subst hW1
  go_enter Try.func23, Try.ntmps23
  go_wp2_with (simp only [hov])
  go_region_law_o (refine step_copy_runI rfl _ _ 50 50 rfl _ _ (by simp [Act.eval, Act.put]) (by simp [Act.eval, Act.put]) (hcp1 _ _ _) ?_)
  go_wp2_with (at_builtin; refine wpList_copy_runI _ rfl _ _ 50 50 rfl _ _ rfl rfl (hcp2 _ _) ?_)
  go_ret
  exact ⟨cur2, rfl, Hd.out.1.1, Hd.out.1.2, Hd.out.2⟩
structure Grown1 (w w' : World) (cur : Array Value) : Prop where
  os : w'.os = w.os
  tape : w'.tape = w.tape
  output : w'.output = w.output
  size : w'.heap.size = w.heap.size + 1
  new : w'.heap[w.heap.size]? = some (.cells cur 55 (0, 0))
  old : ∀ b, b < w.heap.size → w'.heap[b]? = w.heap[b]?
theorem Grown1.setRow {w w' : World} {cur : Array Value} (h : Grown1 w w' cur) (cur' : Array Value) : Grown1 w (w'.setRow w.heap.size cur') cur' :=
  ⟨h.os, h.tape, h.output, by rw [← h.size]; simp [World.setRow], setRow_heap w' _ cur cur' _ _ h.new, fun b hb => by rw [setRow_other _ _ _ _ (by omega)]; exact h.old b hb⟩
theorem Grown1.drew {w w' : World} {cur : Array Value} (h : Grown1 w w' cur) : Grown1 w w'.drew cur := ⟨h.os, h.tape, h.output, h.size, h.new, h.old⟩
set_option maxHeartbeats 4000000 in
set_option maxRecDepth 100000 in
theorem ins_grow (b n c i vb vc : Nat) (cur cv : Array Value) (cs vs : List Value) (w : World) (hi : i < n) (hnc : n ≤ c) (hroom : c < n + 1) (hbig : n + 1 ≤ 1000000000)
    (hcl : cs.length = n * 3) (hvl : vs.length = 3) (hcur : w.heap[b]? = some (.cells cur 55 (0, 0))) (hcs : cur.toList.take (n * 3) = cs)
    (hcv : w.heap[vb]? = some (.cells cv 55 (0, 0))) (hvs : cv.toList = vs) (h1c : ∀ v ∈ cs, v.oneCell' = true) (h1v : ∀ v ∈ vs, v.oneCell' = true) :
    Calls Try.prog 23 #[.slice (some ⟨b, 0, none⟩) n c, .int .i64 i, .slice (some ⟨vb, 0, none⟩) 1 vc] w fun e w' =>
      ∃ (cur' : Array Value) (G : Nat), e = .returned (.slice (some ⟨w.heap.size, 0, none⟩) (n + 1) G) ∧ n + 1 ≤ G ∧ cur'.size = G * 3 ∧ cur'.toList.take ((n + 1) * 3) = cs.take (i * 3) ++ vs ++ cs.drop (i * 3) ∧ Grown1 w w' cur' := by
  obtain ⟨i0, hi0, hz0, hzs, hzb⟩ := info_parts infoH
  have u50 := Try.underlying50
  have u3 := Try.underlying3
  have hbw : b < w.heap.size := (Array.getElem?_eq_some_iff.1 hcur).1
  have hvw : vb < w.heap.size := (Array.getElem?_eq_some_iff.1 hcv).1
  have hold : (Builtin.firstCells i0.size i (.slice (some ⟨b, 0, none⟩) i c)).run Try.prog w.drew = .ok (cs.take (i * 3)).toArray w.drew := by
    rw [hzs]
    exact run_firstCells_some w.drew 3 i ⟨b, 0, none⟩ i c (cs.take (i * 3)) (by rw [List.length_take]; omega) (fun j v hj => by
      rw [Addr.add_lit, Nat.zero_add, blk_cell' (show w.drew.heap[b]? = _ from hcur)]
      rw [List.getElem?_take] at hj
      split at hj
      · rw [← hcs, List.getElem?_take] at hj
        split at hj
        · simpa using hj
        · cases hj
      · cases hj)
  have hkk : (n : Int) + 1 - (i : Int) = ((n + 1 - i : Nat) : Int) := by omega
  have hik : i + (n + 1 - i) = n + 1 := by omega
  obtain ⟨G, hG⟩ : ∃ G, G = grownCap w (n + 1) c 55 := ⟨_, rfl⟩
  have hGn : n + 1 ≤ G := by rw [hG]; exact grownCap_ge w _ _ _
  obtain ⟨ROW, hROW⟩ : ∃ ROW : Array Value, ROW = (cs.take (i * 3)).toArray ++ Builtin.zeroCells (Value.agg #[.int .i64 0, .int .i64 0, .int .i64 0]).cells (n + 1 - i) ++ Builtin.zeroCells (Value.agg #[.int .i64 0, .int .i64 0, .int .i64 0]).cells (G - (n + 1)) := ⟨_, rfl⟩
  obtain ⟨W1, hW1⟩ : ∃ W1, W1 = w.drew.alloc (.cells ROW 55) := ⟨_, rfl⟩
  have hrz : ∀ ty, (Builtin.append_ #[50, 3] ty #[.slice (some ⟨b, 0, none⟩) i c, .int .i64 ((n : Int) + 1 - (i : Int))]).run Try.prog w = .ok (.slice (some ⟨w.heap.size, 0, none⟩) (n + 1) G) W1 := fun ty => by
    have h := Lib.run_append_grow_zeros w 50 3 ty 55 i0 _ .i64 .i64 u50 u3 hi0 hz0 (some ⟨b, 0, none⟩) i c (cs.take (i * 3)) hold (n + 1 - i) (by omega) (by omega) (by omega) (by omega) (by rw [hzb]; omega) (by rw [hzb, hik]; exact growslice_fits hroom (by omega))
    rw [hik, ← hG, ← hROW, ← hW1] at h
    rw [hkk]
    exact h
  have hzc : (Value.agg #[.int .i64 0, .int .i64 0, .int .i64 0]).cells.size = 3 := rfl
  have hRs : ROW.size = G * 3 := by
    rw [hROW]
    simp only [Array.size_append, List.size_toArray, List.length_take, size_zeroCells, hzc, hcl]
    rw [Nat.min_eq_left (by omega), ← Nat.add_mul, ← Nat.add_mul]
    congr 1
    omega
  have hRt : ROW.toList.take (i * 3) = cs.take (i * 3) := by
    have hl : (cs.take (i * 3)).length = i * 3 := by rw [List.length_take, hcl]; omega
    rw [hROW, Array.toList_append, Array.toList_append, List.append_assoc, List.take_append_of_le_length (by rw [List.toList_toArray, hl]; exact Nat.le_refl _), List.toList_toArray, List.take_of_length_le (Nat.le_of_eq hl)]
  have g1 : Grown1 w W1 ROW := ⟨by rw [hW1]; rfl, by rw [hW1]; rfl, by rw [hW1]; rfl, by rw [hW1]; simp, by rw [hW1]; exact heap_alloc_new w.drew _, fun b hb => by rw [hW1]; exact Below.heap_alloc w.drew _ b hb⟩
  obtain ⟨cur1, hcur1⟩ : ∃ cur1 : Array Value, cur1 = (ROW.toList.take (i * 3) ++ vs ++ ROW.toList.drop (i * 3 + vs.length)).toArray := ⟨_, rfl⟩
  have hRl : ROW.toList.length = G * 3 := by rw [Array.length_toList, hRs]
  have hs1 : cur1.size = G * 3 := by
    rw [hcur1]
    simp only [List.size_toArray, List.length_append, List.length_take, List.length_drop, hRl, hvl]
    omega
  have hcpA : ∀ (W : World), W.heap = W1.heap → ∀ ty dc, (Builtin.copy_ #[50, 50] ty #[.slice (some ⟨w.heap.size, i * 3, none⟩) (n + 1 - i) dc, .slice (some ⟨vb, 0, none⟩) 1 vc]).run Try.prog W = .ok (goInt 1) (W.setRow w.heap.size cur1) := fun W hW ty dc => by
    have hmin : Nat.min 1 (n + 1 - i) = 1 := by simp only [Nat.min_def]; split <;> omega
    have := run_copy_sized (P := Try.prog) W 50 50 ty 55 i0 w.heap.size (i * 3) (n + 1 - i) dc ⟨vb, 0, none⟩ 1 vc ROW 55 vs u50 hi0 (by rw [hW]; exact g1.new) (by rw [hmin, hvl, hzs])
      (fun j v hj => by
        rw [Addr.add_lit, Nat.zero_add, blk_cell' (show W.heap[vb]? = _ by rw [hW, g1.old vb hvw]; exact hcv), ← Array.getElem?_toList, hvs]; exact hj) (by rw [hvl, hRs]; omega) h1v
    rw [hmin, ← hcur1] at this
    exact this
  have g2 := (g1.setRow cur1).drew
  have hdl : (cs.drop (i * 3)).length = (n - i) * 3 := by rw [List.length_drop, hcl, Nat.sub_mul]
  obtain ⟨cur2, hcur2⟩ : ∃ cur2 : Array Value, cur2 = (cur1.toList.take ((i + 1) * 3) ++ cs.drop (i * 3) ++ cur1.toList.drop ((i + 1) * 3 + (cs.drop (i * 3)).length)).toArray := ⟨_, rfl⟩
  have hcpB : ∀ (W : World), W.heap = (W1.setRow w.heap.size cur1).heap → ∀ ty dc sc, (Builtin.copy_ #[50, 50] ty #[.slice (some ⟨w.heap.size, (i + 1) * 3, none⟩) (n - i) dc, .slice (some ⟨b, i * 3, none⟩) (n - i) sc]).run Try.prog W = .ok (goInt ((n - i : Nat) : Int)) (W.setRow w.heap.size cur2) := fun W hW ty dc sc => by
    have hmin : Nat.min (n - i) (n - i) = n - i := Nat.min_self _
    have hWb : W.heap[b]? = some (.cells cur 55 (0, 0)) := by
      rw [hW]; exact (g2.old b hbw).trans hcur
    have := run_copy_sized (P := Try.prog) W 50 50 ty 55 i0 w.heap.size ((i + 1) * 3) (n - i) dc ⟨b, i * 3, none⟩ (n - i) sc cur1 55 (cs.drop (i * 3)) u50 hi0 (by rw [hW]; exact g2.new) (by rw [hmin, hdl, hzs])
      (fun j v hj => by
        rw [Addr.add_lit, blk_cell' hWb]
        rw [List.getElem?_drop, ← hcs, List.getElem?_take] at hj
        split at hj
        · simpa using hj
        · cases hj) (by rw [hdl, hs1]; omega) (fun v hv => h1c v (List.mem_of_mem_drop hv))
    rw [hmin, ← hcur2] at this
    exact this
  have g3 := g2.setRow cur2
  have hdone : cur2.size = G * 3 ∧ cur2.toList.take ((n + 1) * 3) = cs.take (i * 3) ++ vs ++ cs.drop (i * 3) := by
    have hl1 : (ROW.toList.take (i * 3) ++ vs).length = (i + 1) * 3 := by rw [List.length_append, List.length_take, hRl, hvl]; omega
    have e1 : cur1.toList.take ((i + 1) * 3) = cs.take (i * 3) ++ vs := by
      rw [hcur1, ← hl1]
      show (ROW.toList.take (i * 3) ++ vs ++ _).take _ = _
      rw [List.take_left, hRt]
    have e3 : cur2.toList = cs.take (i * 3) ++ vs ++ cs.drop (i * 3) ++ cur1.toList.drop ((i + 1) * 3 + (cs.drop (i * 3)).length) := by rw [hcur2, e1]
    have hl : (n + 1) * 3 = (cs.take (i * 3) ++ vs ++ cs.drop (i * 3)).length := by
      simp only [List.length_append, List.length_take, List.length_drop, hcl, hvl]
      omega
    refine ⟨?_, ?_⟩
    · rw [← Array.length_toList, e3, List.length_append, ← hl, List.length_drop, Array.length_toList, hs1, hdl]
      omega
    · rw [e3, hl, List.take_left]
  have mixed : Try.prog.follows .mixedOrders = true := by kernel_rfl
  have hz2 : ¬ ((i : Int) = (n : Int)) := by omega
  have hz3 : (c : Int) < (n : Int) + 1 := by omega
  have hw1 : IntKind.i64.wrap ((i : Int) + 1) = (i : Int) + 1 := by rw [IntKind.wrap_i64]; omega
  have hb1 : (0 : Int) ≤ (i : Int) + 1 := by omega
  have hin : i ≤ n := by omega
  have htn : ((i : Int) + 1).toNat = i + 1 := by omega
  have hb3 : (i : Int) ≤ (n : Int) := by omega
  have hGi : ¬ (G = i) := by omega
  have hGim : ¬ (G = i + 1) := by omega
  have hci : ¬ (c = i) := by omega
  have hG63 : G ≤ 9223372036854775807 := by
    have := grownCap_le_maxLen w (n + 1) c 55 (by unfold maxLen; omega)
    rw [← hG] at this
    unfold maxLen at this
    omega
  clear hkk hik hold hROW hG hRl hcur1 hcur2 hcs hvs hcur hcv hRt hRs hs1 hzc g1 g2
  have Hd := Lib.hid (And.intro hdone g3)
  clear hdone g3
  subst hW1
  have hE : ((w.alloc (.cells ROW 55)).drew).heap = (w.drew.alloc (.cells ROW 55)).heap := rfl
  have hF : (((w.alloc (.cells ROW 55)).drew.setRow w.heap.size cur1).drew).heap = ((w.drew.alloc (.cells ROW 55)).setRow w.heap.size cur1).heap := rfl
  go_enter Try.func23, Try.ntmps23
  go_wp2_with (first
    | (at_builtin; refine Lib.wpList_append_run _ rfl _ _ _ _ rfl _ _ rfl rfl _ _ (hrz _) ?_)
    | (at_builtin; refine wpList_copy_runI _ rfl _ _ 50 50 rfl _ _ rfl rfl (hcpA _ hE _ _) ?_))
  go_region_law_o (refine step_copy_runI rfl _ _ 50 50 rfl (.slice (some ⟨w.heap.size, (i + 1) * 3, none⟩) (n - i) (G - (i + 1))) (.slice (some ⟨b, i * 3, none⟩) (n - i) (c - i)) (by simp [Act.eval, Act.put]) (by simp [Act.eval, Act.put]) (hcpB _ hF 3 (G - (i + 1)) (c - i)) ?_)
  go_wp2
  go_ret
  exact ⟨cur2, G, rfl, hGn, Hd.out.1.1, Hd.out.1.2, Hd.out.2⟩
set_option maxHeartbeats 4000000 in
set_option maxRecDepth 100000 in
theorem ins_end (s0 : Value) (n vb vc : Nat) (V : Value) (w w' : World) (hs : s0 = .slice none 0 0 ∧ n = 0 ∨ ∃ b c, s0 = .slice (some ⟨b, 0, none⟩) n c ∧ n ≤ c)
    (hrun : ∀ ty, (Builtin.append_ #[50, 50] ty #[s0, .slice (some ⟨vb, 0, none⟩) 1 vc]).run Try.prog w = .ok V w') :
    Calls Try.prog 23 #[s0, .int .i64 n, .slice (some ⟨vb, 0, none⟩) 1 vc] w fun e w2 => e = .returned V ∧ w2 = w' := by
  have mixed : Try.prog.follows .mixedOrders = true := by kernel_rfl
  rcases hs with ⟨rfl, rfl⟩ | ⟨b, c, rfl, hle⟩
  · go_enter Try.func23, Try.ntmps23
    go_wp2_with (at_builtin; refine Lib.wpList_append_run _ rfl _ _ _ _ rfl _ _ rfl rfl _ _ (hrun _) ?_)
    go_ret
    exact ⟨rfl, rfl⟩
  · go_enter Try.func23, Try.ntmps23
    go_wp2_with (at_builtin; refine Lib.wpList_append_run _ rfl _ _ _ _ rfl _ _ rfl rfl _ _ (hrun _) ?_)
    all_goals
      go_ret
      exact ⟨rfl, rfl⟩
end Go.Proofs.Ytbmapmigiokbcaa.Print
