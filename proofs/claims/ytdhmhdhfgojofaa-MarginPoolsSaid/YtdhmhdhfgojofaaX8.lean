/- A text of this seat. -/
import Derived.Test.YtdhmhdhfgojofaaWideA
import Derived.Test.YtdhmhdhfgojofaaWideD
import Derived.Test.YtdhmhdhfgojofaaMoney
import Derived.Test.YtdhmhdhfgojofaaX0
namespace Go.Proofs.Ytdhmhdhfgojofaa.Ax
open Go Go.RowKit Go.Proofs.Ytdhmhdhfgojofaa.Print Go.Proofs.YtdhmhdhfgojofaaW.PrintWords
set_option linter.unusedVariables false
set_option linter.unusedSimpArgs false
def intsOf : List SV → Option (List Int)
  | [] => some []
  | s :: l => match s with
    | .v (.int .i64 a) => match intsOf l with
      | some r => some (a :: r)
      | none => none
    | _ => none
theorem intsOf_den (ρ : Rho) : ∀ {c : List SV} {l : List Int}, intsOf c = some l → denL ρ c = l.map (Value.int .i64)
  | [], l, h => by cases h; rfl
  | s :: c, l, h => by
    cases s with
    | v x =>
      cases x with
      | int k a =>
        cases k <;> simp only [intsOf, reduceCtorEq] at h
        cases hr : intsOf c with
        | none => rw [hr] at h; cases h
        | some r =>
          rw [hr] at h
          cases h
          simp only [denL, den, intsOf_den ρ hr, List.map_cons]
      | _ => cases h
    | _ => cases h
theorem C_of_cells {w : World} {ρ : Rho} {id ty : Nat} {c : List SV} {l : List Int} (h : OK ρ w (ρ id) (.cells ty c)) (hl : intsOf c = some l) (hb : l.length ≤ 9223372036854775807) :
    den ρ (.slc id 1 0 l.length (some l.length)) = .slice (some ⟨(ρ id).blk, 0, none⟩) l.length l.length ∧ Kd.C (Kd.int .i64) w (some ⟨(ρ id).blk, 0, none⟩) l.length l := by
  obtain ⟨h1, h2, h3⟩ := h
  rw [intsOf_den ρ hl] at h3
  refine ⟨?_, rfl, hb, fun _ => ⟨_, rfl, fun j p hp => ⟨[Value.int .i64 p], rfl, rfl, fun i u hu => ?_⟩⟩⟩
  · simp only [den, h1, h2, Bool.false_eq_true, if_false, Nat.zero_mul, Nat.add_zero]
  have hi : i = 0 := by
    cases i with
    | zero => rfl
    | succ i => simp at hu
  subst hi
  simp at hu
  subst hu
  have ha : (⟨(ρ id).blk, 0, none⟩ : Addr).add (j * 1 + 0) = ⟨(ρ id).blk, j, none⟩ := by
    unfold Addr.add
    split
    · rename_i h0; congr 1; omega
    · simp
  show w.cell? ((⟨(ρ id).blk, 0, none⟩ : Addr).add (j * 1 + 0)) = _
  rw [ha, cell_of_row w _ j _ ty _ h3]
  simp [hp]
def smV (l : List Int) : Int × Int := money_Sum.v l
def sumR (c : List SV) (n m : Nat) : Rd Out := .opt (intsOf c) fun l => .br (Nat.beq l.length n && Nat.beq l.length m && okLen l) (.ret ⟨.tup [.v (.int .i64 (smV l).1), .v (.int .i64 (smV l).2)], []⟩) .fail
def cSum : Con := fun args _ => match args with
  | [.slc id 1 0 n (some m)] => .obj id fun o => match o with
    | .cells _ c => sumR c n m
    | .ro _ c => sumR c n m
    | _ => .fail
  | _ => .fail
theorem sumR_run {c : List SV} {n m : Nat} {h : Hp} {out : Out} {ids : List Nat} (hr : (sumR c n m).run h = some (out, ids)) :
    ∃ l, intsOf c = some l ∧ l.length = n ∧ l.length = m ∧ l.length ≤ 9223372036854775807 ∧ out = ⟨.tup [.v (.int .i64 (smV l).1), .v (.int .i64 (smV l).2)], []⟩ := by
  unfold sumR at hr
  cases hl : intsOf c with
  | none => rw [hl] at hr; cases hr
  | some l =>
    rw [hl] at hr
    obtain ⟨hb, hr⟩ := br_run (h := h) hr
    cases hr
    simp only [Bool.and_eq_true] at hb
    obtain ⟨⟨b1, b2⟩, b3⟩ := hb
    exact ⟨l, rfl, Nat.eq_of_beq_eq_true b1, Nat.eq_of_beq_eq_true b2, Nat.le_of_ble_eq_true b3, rfl⟩
theorem sum_gives {B : Nat → Prop} {ρ : Rho} {h : Hp} {w : World} {lo id ty n m : Nat} {c : List SV} {out : Out} {ids : List Nat} (hrh : HR B ρ h w) (up : ∀ b, w.heap.size ≤ b → B b) (hk : OK ρ w (ρ id) (.cells ty c)) (hr : (sumR c n m).run h = some (out, ids)) :
    CallGives Try.prog 20 (denL ρ [.slc id 1 0 n (some m)]).toArray w fun v w' => ∃ ρ', Made B ρ h w lo (lo + wide) out ρ' v w' := by
  obtain ⟨l, hl, b1, b2, b3, rfl⟩ := sumR_run hr
  subst b1
  subst b2
  obtain ⟨d1, d2⟩ := C_of_cells hk hl b3
  have hargs : (denL ρ [.slc id 1 0 l.length (some l.length)]).toArray = #[.slice (some ⟨(ρ id).blk, 0, none⟩) l.length l.length] := by
    show (#[den ρ (.slc id 1 0 l.length (some l.length))] : Array Value) = _
    rw [d1]
  rw [hargs]
  exact gives_same (s := .tup [.v (.int .i64 (smV l).1), .v (.int .i64 (smV l).2)]) (fn := Try.f20) Try.func20 (by kernel_rfl) (by kernel_rfl) hrh up (money_Sum.calls _ _ l _ _ w d2 (Nat.le_refl _) rfl)
theorem cSum_ok (B) : ConOk Try.prog B 20 cSum := by
  intro args ρ h w lo out ids hr hrh hfr hfa up
  unfold cSum at hr
  split at hr
  · rename_i id n m
    obtain ⟨o, ids', ho, hr⟩ := obj_run hr
    split at hr
    · exact sum_gives hrh up (hrh.ok id _ ho) hr
    · rename_i ty c
      have hk := hrh.ok id _ ho
      exact sum_gives (ty := ty) hrh up ⟨hk.1, hk.2.1, hk.2.2⟩ hr
    · cases hr
  · cases hr
def CSum : FuncId → Option Con
  | 20 => some cSum
  | _ => none
theorem CSum_ok : ∀ B' g φ, CSum g = some φ → ConOk Try.prog B' g φ := by
  intro B' g φ h
  unfold CSum at h
  split at h
  · cases h; exact cSum_ok B'
  · cases h
def cTotal : Con := fun args _ => match args with
  | [.slc id 1 0 n (some m)] => .obj id fun o => match o with
    | .cells _ c => sumR c n m
    | .ro _ c => sumR c n m
    | _ => .fail
  | _ => .fail
theorem total_tree (ty : Nat) (c : List SV) (n m : Nat) : evFn Try.prog CSum cn0 4 Try.f42 [.slc 0 1 0 n (some m)] [(0, .ro ty c)] 1 K1 =
    obnd (intsOf c) fun l => sel (Nat.beq l.length n && Nat.beq l.length m && okLen l) (some (.tup [.v (.int .i64 (smV l).1), .v (.int .i64 (smV l).2)])) none := by kernel_rfl
theorem total_gives {B : Nat → Prop} {ρ : Rho} {h : Hp} {w : World} {lo id ty n m : Nat} {c : List SV} {out : Out} {ids : List Nat} {o : AObj} (hrh : HR B ρ h w) (up : ∀ b, w.heap.size ≤ b → B b) (ho : look h id = some o) (hk : o = .cells ty c ∨ o = .ro ty c) (hr : (sumR c n m).run h = some (out, ids)) :
    CallGives Try.prog 42 (denL ρ [.slc id 1 0 n (some m)]).toArray w fun v w' => ∃ ρ', Made B ρ h w lo (lo + wide) out ρ' v w' := by
  obtain ⟨l, hl, b1, b2, b3, rfl⟩ := sumR_run hr
  have hc : c = l.map (fun a => SV.v (.int .i64 a)) := by
    clear hk hr b1 b2 b3
    induction c generalizing l with
    | nil => cases hl; rfl
    | cons s c ih =>
      simp only [intsOf] at hl
      split at hl
      · split at hl
        · rename_i r hr
          cases hl
          rw [ih r hr]; rfl
        · cases hl
      · cases hl
  have hren : renL (fun i => i) c = c := renL_id c
  have hlt : ltL 1 c = true := by
    rw [hc]
    clear hc hl b1 b2 b3 hr
    induction l with
    | nil => rfl
    | cons a l ih => simp only [List.map_cons, ltL, ih]; rfl
  have hren' : renL (fun _ => id) c = c := by
    rw [hc]
    clear hc hl b1 b2 b3 hr hlt hren
    induction l with
    | nil => rfl
    | cons a l ih => simp only [List.map_cons, renL, ih]; rfl
  have ht : evFn Try.prog CSum cn0 4 Try.f42 [.slc 0 1 0 n (some m)] [(0, .ro ty c)] 1 K1 = some (.tup [.v (.int .i64 (smV l).1), .v (.int .i64 (smV l).2)]) := by
    rw [total_tree, hl, obnd_some, b1]
    rw [b1] at b2
    subst b2
    rw [show okLen l = true from Nat.ble_eq_true_of_le b3, Nat.beq_refl]; rfl
  exact con_reads (B := B) mixed Try.func42 (by kernel_rfl) rfl CSum_ok (fun B' w => cn0_ok B' w _) [.slc 0 1 0 n (some m)] (fun _ => id) [(0, .ro ty c)] 1 _ K1_spec ht ρ h w lo hrh up rfl
    (fun i oc hi => by
      simp only [look] at hi
      by_cases e : 0 = i
      · subst e; cases hi; exact ⟨by decide, hlt⟩
      · rw [beq_no e] at hi; cases hi)
    (fun i oc hi => by
      simp only [look] at hi
      by_cases e : 0 = i
      · subst e
        cases hi
        refine ⟨o, ho, ?_⟩
        simp only [Reads, hren']
        exact hk
      · rw [beq_no e] at hi; cases hi)
theorem cTotal_ok (B) : ConOk Try.prog B 42 cTotal := by
  intro args ρ h w lo out ids hr hrh hfr hfa up
  unfold cTotal at hr
  split at hr
  · rename_i id n m
    obtain ⟨o, ids', ho, hr⟩ := obj_run hr
    split at hr
    · exact total_gives hrh up ho (.inl rfl) hr
    · exact total_gives hrh up ho (.inr rfl) hr
    · cases hr
  · cases hr
def CTot : FuncId → Option Con
  | 42 => some cTotal
  | _ => none
theorem CTot_ok : ∀ B' g φ, CTot g = some φ → ConOk Try.prog B' g φ := by
  intro B' g φ h
  unfold CTot at h
  split at h
  · cases h; exact cTotal_ok B'
  · cases h
theorem add_tree (a b : Int) : evFn Try.prog CTot cn0 4 Try.f34 [.v (.int .i64 a), .v (.int .i64 b)] [] 0 K1 = some (.tup [.v (.int .i64 (smV [a, b]).1), .v (.int .i64 (smV [a, b]).2)]) := by kernel_rfl
def cAdd : Con := fun args _ => match args with
  | [.v (.int .i64 a), .v (.int .i64 b)] => .ret ⟨.tup [.v (.int .i64 (smV [a, b]).1), .v (.int .i64 (smV [a, b]).2)], []⟩
  | _ => .fail
theorem cAdd_ok : ∀ B, ConOk Try.prog B 34 cAdd := con_pure mixed Try.func34 (by kernel_rfl) rfl CTot_ok (fun B' w => cn0_ok B' w _) (by
  intro args lo h out ids hr
  unfold cAdd at hr
  split at hr
  · rename_i a b
    cases hr
    exact ⟨rfl, rfl, add_tree a b⟩
  · cases hr)
def CMD : FuncId → Option Con
  | 41 => some cMulDiv
  | _ => none
theorem CMD_ok : ∀ B' g φ, CMD g = some φ → ConOk Try.prog B' g φ := by
  intro B' g φ h
  unfold CMD at h
  split at h
  · cases h; exact cMulDiv_ok B'
  · cases h
def bpB (b : Int) : Bool := decide (0 ≤ b) && decide (b ≤ 10000)
theorem bpB_iff (b : Int) : bpB b = true ↔ 0 ≤ b ∧ b ≤ 10000 := by simp [bpB]
def taxV (a b : Int) : Int × Int := bif bpB b then mulDivV a b 10000 else (0, 2)
def insideV (a b : Int) : Int × Int := bif bpB b then mulDivV a b (10000 + b) else (0, 2)
def int2 (x y : Int) : SV := .tup [.v (.int .i64 x), .v (.int .i64 y)]
theorem tax_tree (a b : Int) : evFn Try.prog CMD cn0 4 Try.f33 [.v (.int .i64 a), .v (.int .i64 b)] [] 0 K1 =
    sel (decide (b < 0)) (some (int2 0 2)) (sel (decide (10000 < b)) (some (int2 0 2)) (some (int2 (mulDivV a b 10000).1 (mulDivV a b 10000).2))) := by kernel_rfl
theorem inside_tree (a b : Int) : evFn Try.prog CMD cn0 4 Try.f35 [.v (.int .i64 a), .v (.int .i64 b)] [] 0 K1 =
    sel (decide (b < 0)) (some (int2 0 2)) (sel (decide (10000 < b)) (some (int2 0 2)) (some (int2 (mulDivV a b (IntKind.i64.wrap (10000 + b))).1 (mulDivV a b (IntKind.i64.wrap (10000 + b))).2))) := by kernel_rfl
theorem bp_split {α : Type} (b : Int) (x y : α) : sel (decide (b < 0)) (some x) (sel (decide (10000 < b)) (some x) (some y)) = some (bif bpB b then y else x) := by
  unfold bpB
  by_cases h1 : b < 0
  · rw [decide_eq_true h1, decide_eq_false (show ¬ 0 ≤ b by omega)]; rfl
  · rw [decide_eq_false h1, decide_eq_true (show 0 ≤ b by omega)]
    by_cases h2 : 10000 < b
    · rw [decide_eq_true h2, decide_eq_false (show ¬ b ≤ 10000 by omega)]; rfl
    · rw [decide_eq_false h2, decide_eq_true (show b ≤ 10000 by omega)]; rfl
def cTax : Con := fun args _ => match args with
  | [.v (.int .i64 a), .v (.int .i64 b)] => .ret ⟨.tup [.v (.int .i64 (taxV a b).1), .v (.int .i64 (taxV a b).2)], []⟩
  | _ => .fail
theorem cTax_ok : ∀ B, ConOk Try.prog B 33 cTax := con_pure mixed Try.func33 (by kernel_rfl) rfl CMD_ok (fun B' w => cn0_ok B' w _) (by
  intro args lo h out ids hr
  unfold cTax at hr
  split at hr
  · rename_i a b
    cases hr
    refine ⟨rfl, rfl, ?_⟩
    rw [tax_tree, bp_split]
    unfold taxV
    cases bpB b <;> rfl
  · cases hr)
def cInside : Con := fun args _ => match args with
  | [.v (.int .i64 a), .v (.int .i64 b)] => .ret ⟨.tup [.v (.int .i64 (insideV a b).1), .v (.int .i64 (insideV a b).2)], []⟩
  | _ => .fail
theorem wrap64_10000 {b : Int} (h : bpB b = true) : IntKind.i64.wrap (10000 + b) = 10000 + b := by
  rw [bpB_iff] at h
  rw [IntKind.wrap_i64]; omega
theorem cInside_ok : ∀ B, ConOk Try.prog B 35 cInside := con_pure mixed Try.func35 (by kernel_rfl) rfl CMD_ok (fun B' w => cn0_ok B' w _) (by
  intro args lo h out ids hr
  unfold cInside at hr
  split at hr
  · rename_i a b
    cases hr
    refine ⟨rfl, rfl, ?_⟩
    rw [inside_tree, bp_split]
    unfold insideV
    cases hb : bpB b with
    | false => rfl
    | true => rw [wrap64_10000 hb]; rfl
  · cases hr)
def uponV (a b : Int) : Int × Int × Int := bif (taxV a b).2 != 0 then (0, 0, (taxV a b).2) else bif (smV [a, (taxV a b).1]).2 != 0 then (0, 0, (smV [a, (taxV a b).1]).2) else (a, (taxV a b).1, 0)
def insV (a b : Int) : Int × Int × Int := bif (insideV a b).2 != 0 then (0, 0, (insideV a b).2) else (IntKind.i64.wrap (a - (insideV a b).1), (insideV a b).1, 0)
def partV (a : Int) (g : Bool) (b : Int) : Int × Int × Int := bif g then insV a b else uponV a b
def CWay : FuncId → Option Con
  | 33 => some cTax
  | 35 => some cInside
  | 34 => some cAdd
  | _ => none
theorem CWay_ok : ∀ B' g φ, CWay g = some φ → ConOk Try.prog B' g φ := by
  intro B' g φ h
  unfold CWay at h
  split at h
  · cases h; exact cTax_ok B'
  · cases h; exact cInside_ok B'
  · cases h; exact cAdd_ok B'
  · cases h
def int3 (x y z : Int) : SV := .tup [.v (.int .i64 x), .v (.int .i64 y), .v (.int .i64 z)]
theorem upon_tree (a b : Int) (g : Bool) : evFn Try.prog CWay cn0 4 Try.f23 [.agg [.v (.int .i64 a), .v (.bool g)], .v (.int .i64 b)] [] 0 K1 =
    sel ((taxV a b).2 != 0) (some (int3 0 0 (taxV a b).2)) (sel ((smV [a, (taxV a b).1]).2 != 0) (some (int3 0 0 (smV [a, (taxV a b).1]).2)) (some (int3 a (taxV a b).1 0))) := by kernel_rfl
theorem ins_tree (a b : Int) (g : Bool) : evFn Try.prog CWay cn0 4 Try.f24 [.agg [.v (.int .i64 a), .v (.bool g)], .v (.int .i64 b)] [] 0 K1 =
    sel ((insideV a b).2 != 0) (some (int3 0 0 (insideV a b).2)) (some (int3 (IntKind.i64.wrap (a - (insideV a b).1)) (insideV a b).1 0)) := by kernel_rfl
def cUpon : Con := fun args _ => match args with
  | [.agg [.v (.int .i64 a), .v (.bool g)], .v (.int .i64 b)] => .ret ⟨.tup [.v (.int .i64 (uponV a b).1), .v (.int .i64 (uponV a b).2.1), .v (.int .i64 (uponV a b).2.2)], []⟩
  | _ => .fail
theorem cUpon_ok : ∀ B, ConOk Try.prog B 23 cUpon := con_pure mixed Try.func23 (by kernel_rfl) rfl CWay_ok (fun B' w => cn0_ok B' w _) (by
  intro args lo h out ids hr
  unfold cUpon at hr
  split at hr
  · rename_i a g b
    cases hr
    refine ⟨rfl, rfl, ?_⟩
    rw [upon_tree]
    unfold uponV
    cases (taxV a b).2 != 0 <;> cases (smV [a, (taxV a b).1]).2 != 0 <;> rfl
  · cases hr)
def cIns : Con := fun args _ => match args with
  | [.agg [.v (.int .i64 a), .v (.bool g)], .v (.int .i64 b)] => .ret ⟨.tup [.v (.int .i64 (insV a b).1), .v (.int .i64 (insV a b).2.1), .v (.int .i64 (insV a b).2.2)], []⟩
  | _ => .fail
theorem cIns_ok : ∀ B, ConOk Try.prog B 24 cIns := con_pure mixed Try.func24 (by kernel_rfl) rfl CWay_ok (fun B' w => cn0_ok B' w _) (by
  intro args lo h out ids hr
  unfold cIns at hr
  split at hr
  · rename_i a g b
    cases hr
    refine ⟨rfl, rfl, ?_⟩
    rw [ins_tree]
    unfold insV
    cases (insideV a b).2 != 0 <;> rfl
  · cases hr)
def CPart : FuncId → Option Con
  | 23 => some cUpon
  | 24 => some cIns
  | _ => none
theorem CPart_ok : ∀ B' g φ, CPart g = some φ → ConOk Try.prog B' g φ := by
  intro B' g φ h
  unfold CPart at h
  split at h
  · cases h; exact cUpon_ok B'
  · cases h; exact cIns_ok B'
  · cases h
theorem part_tree (a b : Int) (g : Bool) : evFn Try.prog CPart cn0 4 Try.f15 [.v (.int .i64 a), .v (.bool g), .v (.int .i64 b)] [] 0 K1 =
    sel g (some (int3 (insV a b).1 (insV a b).2.1 (insV a b).2.2)) (some (int3 (uponV a b).1 (uponV a b).2.1 (uponV a b).2.2)) := by kernel_rfl
theorem part_ev (a b : Int) (g : Bool) : evFn Try.prog CPart cn0 4 Try.f15 [.v (.int .i64 a), .v (.bool g), .v (.int .i64 b)] [] 0 K1 = some (.tup [.v (.int .i64 (partV a g b).1), .v (.int .i64 (partV a g b).2.1), .v (.int .i64 (partV a g b).2.2)]) := by
  rw [part_tree]; cases g <;> rfl
def cPart : Con := fun args _ => match args with
  | [.v (.int .i64 a), .v (.bool g), .v (.int .i64 b)] => .ret ⟨.tup [.v (.int .i64 (partV a g b).1), .v (.int .i64 (partV a g b).2.1), .v (.int .i64 (partV a g b).2.2)], []⟩
  | _ => .fail
theorem cPart_ok : ∀ B, ConOk Try.prog B 15 cPart := con_pure mixed Try.func15 (by kernel_rfl) rfl CPart_ok (fun B' w => cn0_ok B' w _) (by
  intro args lo h out ids hr
  unfold cPart at hr
  split at hr
  · rename_i a g b
    cases hr
    exact ⟨rfl, rfl, part_ev a b g⟩
  · cases hr)
end Go.Proofs.Ytdhmhdhfgojofaa.Ax
namespace Go.Proofs.Ytdhmhdhfgojofaa.Print
open Go Go.RowKit Go.Proofs.Ytdhmhdhfgojofaa.Ax
end Go.Proofs.Ytdhmhdhfgojofaa.Print
namespace Go.Proofs.Ytdhmhdhfgojofaa.Ax
open Go Go.RowKit
set_option linter.unusedVariables false
set_option linter.unusedSimpArgs false
theorem wrapI (x : Int) : IntKind.i64.wrap x = wrap64 x := by rw [IntKind.wrap_i64]; unfold wrap64; omega
theorem half_le (p c n : Int) (hc : 0 < c) (h : p ≤ c * n) : halfV p c ≤ n := by
  obtain ⟨h1, h2⟩ := half_spec p c hc
  apply Decidable.byContradiction
  intro hn
  have h3 : 2 * c * (n + 1) ≤ 2 * c * halfV p c := Int.mul_le_mul_of_nonneg_left (by omega) (by omega)
  have h4 : 2 * c * (n + 1) = 2 * (c * n) + 2 * c := by rw [Int.mul_add, Int.mul_assoc]; omega
  omega
theorem ins_le (a b : Int) (ha : 0 ≤ a) (hb : 0 ≤ b ∧ b ≤ 10000) : halfV (a * b) (10000 + b) ≤ a := by
  refine half_le _ _ _ (by omega) ?_
  rw [Int.mul_comm (10000 + b) a]
  exact Int.mul_le_mul_of_nonneg_left (by omega) ha
theorem mul_le_mag (m b : Int) (hm : 0 ≤ m) (hb : 0 ≤ b ∧ b ≤ 10000) (c : Int) (hc : 10000 ≤ c) (hbc : b ≤ c) : halfV (m * b) c ≤ m := by
  refine half_le _ _ _ (by omega) ?_
  rw [Int.mul_comm c m]
  exact Int.mul_le_mul_of_nonneg_left hbc hm
theorem mulDiv_ok (a b c : Int) (ha : mayB a = true) (hb : 0 ≤ b ∧ b ≤ 10000) (hc : 10000 ≤ c ∧ c ≤ 20000) (hbc : b ≤ c) : (mulDivV a b c).2 = 0 := by
  have h := (mayB_iff a).1 ha
  have hr : rightV a b c = true := by rw [rightV_iff]; omega
  unfold mulDivV
  rw [if_pos hr]
  have m1 := mag_bd h
  have m2 : mag b = b := by unfold mag; rw [if_neg (by omega)]
  rw [m2]
  have := mul_le_mag (mag a) b m1.1 hb c hc.1 hbc
  unfold overV
  rw [if_pos (by omega)]
theorem taxV_ok (a b : Int) (ha : mayB a = true) (hb : bpB b = true) : (taxV a b).2 = 0 := by
  have h := (bpB_iff b).1 hb
  unfold taxV
  rw [hb]
  exact mulDiv_ok a b 10000 ha h (by omega) (by omega)
theorem insideV_ok (a b : Int) (ha : mayB a = true) (hb : bpB b = true) : (insideV a b).2 = 0 := by
  have h := (bpB_iff b).1 hb
  unfold insideV
  rw [hb]
  exact mulDiv_ok a b (10000 + b) ha h (by omega) (by omega)
theorem mulDiv_no (a b c : Int) (h : (mayB a && mayB b && mayB c && decide (1 ≤ c)) = false) : mulDivV a b c = (0, 2) := by
  have : rightV a b c = false := by
    unfold rightV
    cases h1 : mayB a <;> cases h2 : mayB b <;> cases h3 : mayB c <;> cases h4 : decide (1 ≤ c) <;> rw [h1, h2, h3, h4] at h <;> first | rfl | cases h
  unfold mulDivV
  rw [this]; rfl
end Go.Proofs.Ytdhmhdhfgojofaa.Ax
namespace Go.Proofs.Ytdhmhdhfgojofaa.Ax
open Go Go.RowKit
set_option linter.unusedVariables false
set_option linter.unusedSimpArgs false
def dealB (p c : Int) : Bool := (decide (0 ≤ p) && mayB p) && (decide (0 ≤ c) && mayB c)
theorem dealB_iff (p c : Int) : dealB p c = true ↔ (0 ≤ p ∧ p ≤ 4611686018427387904) ∧ (0 ≤ c ∧ c ≤ 4611686018427387904) := by
  simp only [dealB, Bool.and_eq_true, decide_eq_true_eq, mayB_iff]; omega
theorem deal_tree (p c : Int) : evFn Try.prog CMay cn0 4 Try.f12 [.agg [.v (.int .i64 p), .v (.int .i64 c)]] [] 0 K1 =
    sel (decide (0 ≤ p)) (sel (mayB p) (sel (decide (0 ≤ c)) (some (.v (.bool (mayB c)))) (some (.v (.bool false)))) (some (.v (.bool false)))) (some (.v (.bool false))) := by kernel_rfl
def cDeal : Con := fun args _ => match args with
  | [.agg [.v (.int .i64 p), .v (.int .i64 c)]] => .ret ⟨.v (.bool (dealB p c)), []⟩
  | _ => .fail
theorem cDeal_ok : ∀ B, ConOk Try.prog B 12 cDeal := con_pure mixed Try.func12 (by kernel_rfl) rfl CMay_ok (fun B' w => cn0_ok B' w _) (by
  intro args lo h out ids hr
  unfold cDeal at hr
  split at hr
  · rename_i p c
    cases hr
    refine ⟨rfl, rfl, ?_⟩
    rw [deal_tree]
    unfold dealB
    cases decide (0 ≤ p) <;> cases mayB p <;> cases decide (0 ≤ c) <;> cases mayB c <;> rfl
  · cases hr)
theorem rate_tree (b : Int) : evFn Try.prog C0 cn0 4 Try.f13 [.v (.int .i64 b)] [] 0 K1 =
    sel (decide (0 ≤ b)) (some (.v (.bool (decide (b ≤ 10000))))) (some (.v (.bool false))) := by kernel_rfl
def cRate : Con := fun args _ => match args with
  | [.v (.int .i64 b)] => .ret ⟨.v (.bool (bpB b)), []⟩
  | _ => .fail
theorem cRate_ok : ∀ B, ConOk Try.prog B 13 cRate := con_pure mixed Try.func13 (by kernel_rfl) rfl C0_ok (fun B' w => cn0_ok B' w _) (by
  intro args lo h out ids hr
  unfold cRate at hr
  split at hr
  · rename_i b
    cases hr
    refine ⟨rfl, rfl, ?_⟩
    rw [rate_tree]
    unfold bpB
    cases decide (0 ≤ b) <;> rfl
  · cases hr)
theorem earned_tree (p c : Int) : evFn Try.prog C0 cn0 4 Try.f14 [.agg [.v (.int .i64 p), .v (.int .i64 c)]] [] 0 K1 =
    some (.v (.int .i64 (mx (IntKind.i64.wrap (p - c)) 0))) := by kernel_rfl
def cEarned : Con := fun args _ => match args with
  | [.agg [.v (.int .i64 p), .v (.int .i64 c)]] => .ret ⟨.v (.int .i64 (mx (IntKind.i64.wrap (p - c)) 0)), []⟩
  | _ => .fail
theorem cEarned_ok : ∀ B, ConOk Try.prog B 14 cEarned := con_pure mixed Try.func14 (by kernel_rfl) rfl C0_ok (fun B' w => cn0_ok B' w _) (by
  intro args lo h out ids hr
  unfold cEarned at hr
  split at hr
  · rename_i p c
    cases hr
    exact ⟨rfl, rfl, earned_tree p c⟩
  · cases hr)
def CMarg : FuncId → Option Con
  | 12 => some cDeal
  | 13 => some cRate
  | 14 => some cEarned
  | 15 => some cPart
  | _ => none
theorem CMarg_ok : ∀ B' g φ, CMarg g = some φ → ConOk Try.prog B' g φ := by
  intro B' g φ h
  unfold CMarg at h
  split at h
  · cases h; exact cDeal_ok B'
  · cases h; exact cRate_ok B'
  · cases h; exact cEarned_ok B'
  · cases h; exact cPart_ok B'
  · cases h
def marginT (x : Int × Int × Int) : Option SV := some (int3 x.1 x.2.1 x.2.2)
theorem margin_tree (p c b : Int) : evFn Try.prog CMarg cn0 4 Try.f6 [.v (.int .i64 p), .v (.int .i64 c), .v (.int .i64 b)] [] 0 K1 =
    sel (!dealB p c) (some (int3 0 0 2)) (sel (!bpB b) (some (int3 0 0 2)) (marginT (partV (mx (IntKind.i64.wrap (p - c)) 0) true b))) := by kernel_rfl
def earnV (p c : Int) : Int := if c < p then p - c else 0
def marginV (p c b : Int) : Int × Int × Int := if dealB p c = true ∧ bpB b = true then partV (earnV p c) true b else (0, 0, 2)
theorem earn_eq {p c : Int} (h : dealB p c = true) : mx (IntKind.i64.wrap (p - c)) 0 = earnV p c := by
  rw [dealB_iff] at h
  rw [wrapI, wrap64_id (by omega) (by omega)]
  unfold mx earnV
  split <;> split <;> omega
theorem margin_ev (p c b : Int) : evFn Try.prog CMarg cn0 4 Try.f6 [.v (.int .i64 p), .v (.int .i64 c), .v (.int .i64 b)] [] 0 K1 = some (.tup [.v (.int .i64 (marginV p c b).1), .v (.int .i64 (marginV p c b).2.1), .v (.int .i64 (marginV p c b).2.2)]) := by
  rw [margin_tree]
  unfold marginV
  cases hd : dealB p c with
  | false => rfl
  | true =>
    cases hb : bpB b with
    | false => rfl
    | true => rw [earn_eq hd, if_pos ⟨rfl, rfl⟩]; rfl
def cMargin : Con := fun args _ => match args with
  | [.v (.int .i64 p), .v (.int .i64 c), .v (.int .i64 b)] => .ret ⟨.tup [.v (.int .i64 (marginV p c b).1), .v (.int .i64 (marginV p c b).2.1), .v (.int .i64 (marginV p c b).2.2)], []⟩
  | _ => .fail
theorem cMargin_ok : ∀ B, ConOk Try.prog B 6 cMargin := con_pure mixed Try.func6 (by kernel_rfl) rfl CMarg_ok (fun B' w => cn0_ok B' w _) (by
  intro args lo h out ids hr
  unfold cMargin at hr
  split at hr
  · rename_i p c b
    cases hr
    exact ⟨rfl, rfl, margin_ev p c b⟩
  · cases hr)
end Go.Proofs.Ytdhmhdhfgojofaa.Ax
namespace Go.Proofs.Ytdhmhdhfgojofaa.Print
open Go Go.RowKit Go.Proofs.Ytdhmhdhfgojofaa.Ax
def margin_Of.f (p c b : Int) : Option (Int × Int × Int) := some (marginV p c b)
theorem margin_Of.calls (p c b r1 r2 r3 : Int) (w : World) (h : margin_Of.f p c b = some (r1, r2, r3)) :
    Calls Try.prog 6 #[.int .i64 p, .int .i64 c, .int .i64 b] w fun e w' => e = .returned (.tuple #[.int .i64 r1, .int .i64 r2, .int .i64 r3]) ∧ Below w.heap.size w w' := by
  have hv : marginV p c b = (r1, r2, r3) := Option.some.inj h
  have := calls_of_con Try.func6 (by kernel_rfl) rfl cMargin_ok (args := [.v (.int .i64 p), .v (.int .i64 c), .v (.int .i64 b)]) (out := ⟨.tup [.v (.int .i64 (marginV p c b).1), .v (.int .i64 (marginV p c b).2.1), .v (.int .i64 (marginV p c b).2.2)], []⟩) (ids := []) rfl rfl rfl rho0 w
  rw [hv] at this
  exact this
end Go.Proofs.Ytdhmhdhfgojofaa.Print
namespace Go.Proofs.Ytdhmhdhfgojofaa.Print
open Go.RowKit Go.Proofs.YtdhmhdhfgojofaaW.PrintWords Go.Proofs.YtdhmhdhfgojofaaW.PrintLast Go.Proofs.YtdhmhdhfgojofaaW.PrintMore
attribute [local go_sem] max2_int min2_int max_two min_two max_three min_three max_four min_four   -- for this text's walks alone
set_option linter.unusedVariables false
set_option linter.unusedSimpArgs false
def octroilaw23_lives.f  : Option (Bool) := (margin_Of.f 1000 405 1900).bind fun bt261 => ((margin_Of.f 5 9 1900).bind fun bt264 => (if bt261.1 = 500 then (if bt261.2.1 = 95 then (if bt261.2.2 = 0 then (if bt264.1 = 0 then (if bt264.2.1 = 0 then (some (bt264.2.2 == 0)) else (some false)) else (some false)) else (some false)) else (some false)) else (some false)))
set_option maxHeartbeats 8000000 in
set_option maxRecDepth 100000 in
theorem octroilaw23_lives.calls  (r : Bool) (w : World) (h : octroilaw23_lives.f  = some r) :
    Calls Try.prog 8 #[] w fun e w' => e = .returned (.bool r) ∧ Below w.heap.size w w' := by
  have HB := Aside0.mk (Below.refl w.heap.size w)
  have H : ((margin_Of.f 1000 405 1900).bind fun bt261 => ((margin_Of.f 5 9 1900).bind fun bt264 => (if bt261.1 = 500 then (if bt261.2.1 = 95 then (if bt261.2.2 = 0 then (if bt264.1 = 0 then (if bt264.2.1 = 0 then (some (bt264.2.2 == 0)) else (some false)) else (some false)) else (some false)) else (some false)) else (some false)))) = some r := h
  clear h
  replace H := Option.bind_eq_some_iff.mp H
  obtain ⟨⟨t261, t262, t263⟩, A10, H⟩ := H
  replace H : ((margin_Of.f 5 9 1900).bind fun bt264 => (if t261 = 500 then (if t262 = 95 then (if t263 = 0 then (if bt264.1 = 0 then (if bt264.2.1 = 0 then (some (bt264.2.2 == 0)) else (some false)) else (some false)) else (some false)) else (some false)) else (some false))) = some r := H
  have A1 := Aside0.mk A10
  clear A10
  replace H := Option.bind_eq_some_iff.mp H
  obtain ⟨⟨t264, t265, t266⟩, A20, H⟩ := H
  replace H : (if t261 = 500 then (if t262 = 95 then (if t263 = 0 then (if t264 = 0 then (if t265 = 0 then (some (t266 == 0)) else (some false)) else (some false)) else (some false)) else (some false)) else (some false)) = some r := H
  have A2 := Aside0.mk A20
  clear A20
  by_cases c3 : t261 = 500
  · rw [if_pos c3] at H
    have c3b0 : (t261 == 500) = true := beq_iff_eq.mpr c3
    have c3b1 : (t261 != 500) = false := bne_eq_false_iff_eq.mpr c3
    clear c3
    by_cases c4 : t262 = 95
    · rw [if_pos c4] at H
      have c4b0 : (t262 == 95) = true := beq_iff_eq.mpr c4
      have c4b1 : (t262 != 95) = false := bne_eq_false_iff_eq.mpr c4
      clear c4
      by_cases c5 : t263 = 0
      · rw [if_pos c5] at H
        have c5b0 : (t263 == 0) = true := beq_iff_eq.mpr c5
        have c5b1 : (t263 != 0) = false := bne_eq_false_iff_eq.mpr c5
        clear c5
        by_cases c6 : t264 = 0
        · rw [if_pos c6] at H
          have c6b0 : (t264 == 0) = true := beq_iff_eq.mpr c6
          have c6b1 : (t264 != 0) = false := bne_eq_false_iff_eq.mpr c6
          clear c6
          by_cases c7 : t265 = 0
          · rw [if_pos c7] at H
            have c7b0 : (t265 == 0) = true := beq_iff_eq.mpr c7
            have c7b1 : (t265 != 0) = false := bne_eq_false_iff_eq.mpr c7
            clear c7
            obtain rfl := Option.some.inj H
            go_enter Try.func8, Try.ntmps8
            go_wp2_with (first | ((with_reducible refine gate_callee (f := 6) rfl ?_); refine goesL_ (some 8) rfl rfl Try.func6 (by kernel_rfl) rfl #[.int .i64 1000, .int .i64 405, .int .i64 1900] rfl (by (try simp only [List.map_toArray, List.map_cons, List.map_nil]); first | done | rfl | (simp only [List.length_drop, List.length_take]; rfl)) ?_; (with_reducible refine (margin_Of.calls 1000 405 1900 t261 t262 t263 _ A1.out).mono ?_); rintro e w8 ⟨rfl, hb⟩; refine ⟨_, rfl, ?_⟩; have n0_ := Aside0.mk (below_step (by repeat (first | (with_reducible first | exact HB.out | apply below_alloc | apply pw_below_drewN | apply below_drew1) | exact HB.out)) hb); clear HB; have HB := n0_; clear n0_; (try clear hb); (try clear hb2); (try clear hk); (try clear hi)) | ((with_reducible refine gate_callee (f := 6) rfl ?_); refine goesL_ (some 13) rfl rfl Try.func6 (by kernel_rfl) rfl #[.int .i64 5, .int .i64 9, .int .i64 1900] rfl (by (try simp only [List.map_toArray, List.map_cons, List.map_nil]); first | done | rfl | (simp only [List.length_drop, List.length_take]; rfl)) ?_; (with_reducible refine (margin_Of.calls 5 9 1900 t264 t265 t266 _ A2.out).mono ?_); rintro e w9 ⟨rfl, hb⟩; refine ⟨_, rfl, ?_⟩; have n0_ := Aside0.mk (below_step (by repeat (first | (with_reducible first | exact HB.out | apply below_alloc | apply pw_below_drewN | apply below_drew1) | exact HB.out)) hb); clear HB; have HB := n0_; clear n0_; (try clear hb); (try clear hb2); (try clear hk); (try clear hi)))
            go_ret
            exact ⟨by first | rfl | (simp [errW_none, errW_some] <;> rfl) | (simp [*, errW_none, errW_some] <;> rfl), by repeat (first | (with_reducible first | exact HB.out | apply below_alloc | apply pw_below_drewN | apply below_drew1) | exact HB.out)⟩
          · rw [if_neg c7] at H
            have c7b0 : (t265 == 0) = false := beq_eq_false_iff_ne.mpr c7
            have c7b1 : (t265 != 0) = true := bne_iff_ne.mpr c7
            obtain rfl := Option.some.inj H
            go_enter Try.func8, Try.ntmps8
            go_wp2_with (first | ((with_reducible refine gate_callee (f := 6) rfl ?_); refine goesL_ (some 8) rfl rfl Try.func6 (by kernel_rfl) rfl #[.int .i64 1000, .int .i64 405, .int .i64 1900] rfl (by (try simp only [List.map_toArray, List.map_cons, List.map_nil]); first | done | rfl | (simp only [List.length_drop, List.length_take]; rfl)) ?_; (with_reducible refine (margin_Of.calls 1000 405 1900 t261 t262 t263 _ A1.out).mono ?_); rintro e w10 ⟨rfl, hb⟩; refine ⟨_, rfl, ?_⟩; have n0_ := Aside0.mk (below_step (by repeat (first | (with_reducible first | exact HB.out | apply below_alloc | apply pw_below_drewN | apply below_drew1) | exact HB.out)) hb); clear HB; have HB := n0_; clear n0_; (try clear hb); (try clear hb2); (try clear hk); (try clear hi)) | ((with_reducible refine gate_callee (f := 6) rfl ?_); refine goesL_ (some 13) rfl rfl Try.func6 (by kernel_rfl) rfl #[.int .i64 5, .int .i64 9, .int .i64 1900] rfl (by (try simp only [List.map_toArray, List.map_cons, List.map_nil]); first | done | rfl | (simp only [List.length_drop, List.length_take]; rfl)) ?_; (with_reducible refine (margin_Of.calls 5 9 1900 t264 t265 t266 _ A2.out).mono ?_); rintro e w11 ⟨rfl, hb⟩; refine ⟨_, rfl, ?_⟩; have n0_ := Aside0.mk (below_step (by repeat (first | (with_reducible first | exact HB.out | apply below_alloc | apply pw_below_drewN | apply below_drew1) | exact HB.out)) hb); clear HB; have HB := n0_; clear n0_; (try clear hb); (try clear hb2); (try clear hk); (try clear hi)))
            go_ret
            exact ⟨by first | rfl | (simp [errW_none, errW_some] <;> rfl) | (simp [*, errW_none, errW_some] <;> rfl), by repeat (first | (with_reducible first | exact HB.out | apply below_alloc | apply pw_below_drewN | apply below_drew1) | exact HB.out)⟩
        · rw [if_neg c6] at H
          have c6b0 : (t264 == 0) = false := beq_eq_false_iff_ne.mpr c6
          have c6b1 : (t264 != 0) = true := bne_iff_ne.mpr c6
          obtain rfl := Option.some.inj H
          go_enter Try.func8, Try.ntmps8
          go_wp2_with (first | ((with_reducible refine gate_callee (f := 6) rfl ?_); refine goesL_ (some 8) rfl rfl Try.func6 (by kernel_rfl) rfl #[.int .i64 1000, .int .i64 405, .int .i64 1900] rfl (by (try simp only [List.map_toArray, List.map_cons, List.map_nil]); first | done | rfl | (simp only [List.length_drop, List.length_take]; rfl)) ?_; (with_reducible refine (margin_Of.calls 1000 405 1900 t261 t262 t263 _ A1.out).mono ?_); rintro e w12 ⟨rfl, hb⟩; refine ⟨_, rfl, ?_⟩; have n0_ := Aside0.mk (below_step (by repeat (first | (with_reducible first | exact HB.out | apply below_alloc | apply pw_below_drewN | apply below_drew1) | exact HB.out)) hb); clear HB; have HB := n0_; clear n0_; (try clear hb); (try clear hb2); (try clear hk); (try clear hi)) | ((with_reducible refine gate_callee (f := 6) rfl ?_); refine goesL_ (some 13) rfl rfl Try.func6 (by kernel_rfl) rfl #[.int .i64 5, .int .i64 9, .int .i64 1900] rfl (by (try simp only [List.map_toArray, List.map_cons, List.map_nil]); first | done | rfl | (simp only [List.length_drop, List.length_take]; rfl)) ?_; (with_reducible refine (margin_Of.calls 5 9 1900 t264 t265 t266 _ A2.out).mono ?_); rintro e w13 ⟨rfl, hb⟩; refine ⟨_, rfl, ?_⟩; have n0_ := Aside0.mk (below_step (by repeat (first | (with_reducible first | exact HB.out | apply below_alloc | apply pw_below_drewN | apply below_drew1) | exact HB.out)) hb); clear HB; have HB := n0_; clear n0_; (try clear hb); (try clear hb2); (try clear hk); (try clear hi)))
          go_ret
          exact ⟨by first | rfl | (simp [errW_none, errW_some] <;> rfl) | (simp [*, errW_none, errW_some] <;> rfl), by repeat (first | (with_reducible first | exact HB.out | apply below_alloc | apply pw_below_drewN | apply below_drew1) | exact HB.out)⟩
      · rw [if_neg c5] at H
        have c5b0 : (t263 == 0) = false := beq_eq_false_iff_ne.mpr c5
        have c5b1 : (t263 != 0) = true := bne_iff_ne.mpr c5
        obtain rfl := Option.some.inj H
        go_enter Try.func8, Try.ntmps8
        go_wp2_with (first | ((with_reducible refine gate_callee (f := 6) rfl ?_); refine goesL_ (some 8) rfl rfl Try.func6 (by kernel_rfl) rfl #[.int .i64 1000, .int .i64 405, .int .i64 1900] rfl (by (try simp only [List.map_toArray, List.map_cons, List.map_nil]); first | done | rfl | (simp only [List.length_drop, List.length_take]; rfl)) ?_; (with_reducible refine (margin_Of.calls 1000 405 1900 t261 t262 t263 _ A1.out).mono ?_); rintro e w14 ⟨rfl, hb⟩; refine ⟨_, rfl, ?_⟩; have n0_ := Aside0.mk (below_step (by repeat (first | (with_reducible first | exact HB.out | apply below_alloc | apply pw_below_drewN | apply below_drew1) | exact HB.out)) hb); clear HB; have HB := n0_; clear n0_; (try clear hb); (try clear hb2); (try clear hk); (try clear hi)) | ((with_reducible refine gate_callee (f := 6) rfl ?_); refine goesL_ (some 13) rfl rfl Try.func6 (by kernel_rfl) rfl #[.int .i64 5, .int .i64 9, .int .i64 1900] rfl (by (try simp only [List.map_toArray, List.map_cons, List.map_nil]); first | done | rfl | (simp only [List.length_drop, List.length_take]; rfl)) ?_; (with_reducible refine (margin_Of.calls 5 9 1900 t264 t265 t266 _ A2.out).mono ?_); rintro e w15 ⟨rfl, hb⟩; refine ⟨_, rfl, ?_⟩; have n0_ := Aside0.mk (below_step (by repeat (first | (with_reducible first | exact HB.out | apply below_alloc | apply pw_below_drewN | apply below_drew1) | exact HB.out)) hb); clear HB; have HB := n0_; clear n0_; (try clear hb); (try clear hb2); (try clear hk); (try clear hi)))
        go_ret
        exact ⟨by first | rfl | (simp [errW_none, errW_some] <;> rfl) | (simp [*, errW_none, errW_some] <;> rfl), by repeat (first | (with_reducible first | exact HB.out | apply below_alloc | apply pw_below_drewN | apply below_drew1) | exact HB.out)⟩
    · rw [if_neg c4] at H
      have c4b0 : (t262 == 95) = false := beq_eq_false_iff_ne.mpr c4
      have c4b1 : (t262 != 95) = true := bne_iff_ne.mpr c4
      obtain rfl := Option.some.inj H
      go_enter Try.func8, Try.ntmps8
      go_wp2_with (first | ((with_reducible refine gate_callee (f := 6) rfl ?_); refine goesL_ (some 8) rfl rfl Try.func6 (by kernel_rfl) rfl #[.int .i64 1000, .int .i64 405, .int .i64 1900] rfl (by (try simp only [List.map_toArray, List.map_cons, List.map_nil]); first | done | rfl | (simp only [List.length_drop, List.length_take]; rfl)) ?_; (with_reducible refine (margin_Of.calls 1000 405 1900 t261 t262 t263 _ A1.out).mono ?_); rintro e w16 ⟨rfl, hb⟩; refine ⟨_, rfl, ?_⟩; have n0_ := Aside0.mk (below_step (by repeat (first | (with_reducible first | exact HB.out | apply below_alloc | apply pw_below_drewN | apply below_drew1) | exact HB.out)) hb); clear HB; have HB := n0_; clear n0_; (try clear hb); (try clear hb2); (try clear hk); (try clear hi)) | ((with_reducible refine gate_callee (f := 6) rfl ?_); refine goesL_ (some 13) rfl rfl Try.func6 (by kernel_rfl) rfl #[.int .i64 5, .int .i64 9, .int .i64 1900] rfl (by (try simp only [List.map_toArray, List.map_cons, List.map_nil]); first | done | rfl | (simp only [List.length_drop, List.length_take]; rfl)) ?_; (with_reducible refine (margin_Of.calls 5 9 1900 t264 t265 t266 _ A2.out).mono ?_); rintro e w17 ⟨rfl, hb⟩; refine ⟨_, rfl, ?_⟩; have n0_ := Aside0.mk (below_step (by repeat (first | (with_reducible first | exact HB.out | apply below_alloc | apply pw_below_drewN | apply below_drew1) | exact HB.out)) hb); clear HB; have HB := n0_; clear n0_; (try clear hb); (try clear hb2); (try clear hk); (try clear hi)))
      go_ret
      exact ⟨by first | rfl | (simp [errW_none, errW_some] <;> rfl) | (simp [*, errW_none, errW_some] <;> rfl), by repeat (first | (with_reducible first | exact HB.out | apply below_alloc | apply pw_below_drewN | apply below_drew1) | exact HB.out)⟩
  · rw [if_neg c3] at H
    have c3b0 : (t261 == 500) = false := beq_eq_false_iff_ne.mpr c3
    have c3b1 : (t261 != 500) = true := bne_iff_ne.mpr c3
    obtain rfl := Option.some.inj H
    go_enter Try.func8, Try.ntmps8
    go_wp2_with (first | ((with_reducible refine gate_callee (f := 6) rfl ?_); refine goesL_ (some 8) rfl rfl Try.func6 (by kernel_rfl) rfl #[.int .i64 1000, .int .i64 405, .int .i64 1900] rfl (by (try simp only [List.map_toArray, List.map_cons, List.map_nil]); first | done | rfl | (simp only [List.length_drop, List.length_take]; rfl)) ?_; (with_reducible refine (margin_Of.calls 1000 405 1900 t261 t262 t263 _ A1.out).mono ?_); rintro e w18 ⟨rfl, hb⟩; refine ⟨_, rfl, ?_⟩; have n0_ := Aside0.mk (below_step (by repeat (first | (with_reducible first | exact HB.out | apply below_alloc | apply pw_below_drewN | apply below_drew1) | exact HB.out)) hb); clear HB; have HB := n0_; clear n0_; (try clear hb); (try clear hb2); (try clear hk); (try clear hi)) | ((with_reducible refine gate_callee (f := 6) rfl ?_); refine goesL_ (some 13) rfl rfl Try.func6 (by kernel_rfl) rfl #[.int .i64 5, .int .i64 9, .int .i64 1900] rfl (by (try simp only [List.map_toArray, List.map_cons, List.map_nil]); first | done | rfl | (simp only [List.length_drop, List.length_take]; rfl)) ?_; (with_reducible refine (margin_Of.calls 5 9 1900 t264 t265 t266 _ A2.out).mono ?_); rintro e w19 ⟨rfl, hb⟩; refine ⟨_, rfl, ?_⟩; have n0_ := Aside0.mk (below_step (by repeat (first | (with_reducible first | exact HB.out | apply below_alloc | apply pw_below_drewN | apply below_drew1) | exact HB.out)) hb); clear HB; have HB := n0_; clear n0_; (try clear hb); (try clear hb2); (try clear hk); (try clear hi)))
    go_ret
    exact ⟨by first | rfl | (simp [errW_none, errW_some] <;> rfl) | (simp [*, errW_none, errW_some] <;> rfl), by repeat (first | (with_reducible first | exact HB.out | apply below_alloc | apply pw_below_drewN | apply below_drew1) | exact HB.out)⟩
end Go.Proofs.Ytdhmhdhfgojofaa.Print
