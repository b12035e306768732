/- The walks of wide's products and quotients. -/
import Derived.Test.YtdhmhdhfgojofaaBitsD
namespace Go.Proofs.Ytdhmhdhfgojofaa.Ax
open Go Go.RowKit
set_option linter.unusedVariables false
set_option linter.unusedSimpArgs false

def CMul : FuncId → Option Con
  | 54 => some cMul
  | _ => none
theorem CMul_ok : ∀ B' g φ, CMul g = some φ → ConOk Try.prog B' g φ := by
  intro B' g φ h
  unfold CMul at h
  split at h
  · cases h; exact cMul_ok B'
  · cases h
theorem times_tree (a b : Int) : evFn Try.prog CMul cn0 4 Try.f49 [.v (.int .u64 a), .v (.int .u64 b)] [] 0 K1 =
    sel (u64B a && u64B b) (some (.agg [.v (.int .u64 (mulHi a b)), .v (.int .u64 (mulLo a b))])) none := by kernel_rfl
def cTimes : Con := fun args _ => match args with
  | [.v (.int .u64 a), .v (.int .u64 b)] => .br (u64B a && u64B b) (.ret ⟨.agg [.v (.int .u64 (mulHi a b)), .v (.int .u64 (mulLo a b))], []⟩) .fail
  | _ => .fail
theorem cTimes_ok : ∀ B, ConOk Try.prog B 49 cTimes := con_pure mixed Try.func49 (by kernel_rfl) rfl CMul_ok (fun B' w => cn0_ok B' w _) (by
  intro args lo h out ids hr
  unfold cTimes at hr
  split at hr
  · rename_i a b
    obtain ⟨hb, hr⟩ := br_run hr
    cases hr
    refine ⟨rfl, rfl, ?_⟩
    rw [times_tree, hb]
    rfl
  · cases hr)

def CDiv : FuncId → Option Con
  | 55 => some cDiv
  | _ => none
theorem CDiv_ok : ∀ B' g φ, CDiv g = some φ → ConOk Try.prog B' g φ := by
  intro B' g φ h
  unfold CDiv at h
  split at h
  · cases h; exact cDiv_ok B'
  · cases h
theorem by_tree (a b c : Int) : evFn Try.prog CDiv cn0 4 Try.f51 [.agg [.v (.int .u64 a), .v (.int .u64 b)], .v (.int .u64 c)] [] 0 K1 =
    sel (decide (c ≤ a)) (some (.tup [.v (.int .u64 0), .v (.int .u64 0), .v (.bool false)]))
      (sel (divOk a b c) (some (.tup [.v (.int .u64 (divQ a b c)), .v (.int .u64 (divR a b c)), .v (.bool true)])) none) := by kernel_rfl
/-- The quotient, what is left, and whether there is one. -/
def byV (a b c : Int) : Int × Int × Bool := bif decide (c ≤ a) then (0, 0, false) else (divQ a b c, divR a b c, true)
def cBy : Con := fun args _ => match args with
  | [.agg [.v (.int .u64 a), .v (.int .u64 b)], .v (.int .u64 c)] => .br (decide (0 ≤ a) && (u64B b && u64B c)) (.ret ⟨.tup [.v (.int .u64 (byV a b c).1), .v (.int .u64 (byV a b c).2.1), .v (.bool (byV a b c).2.2)], []⟩) .fail
  | _ => .fail
theorem cBy_ok : ∀ B, ConOk Try.prog B 51 cBy := con_pure mixed Try.func51 (by kernel_rfl) rfl CDiv_ok (fun B' w => cn0_ok B' w _) (by
  intro args lo h out ids hr
  unfold cBy at hr
  split at hr
  · rename_i a b c
    obtain ⟨hb, hr⟩ := br_run hr
    cases hr
    refine ⟨rfl, rfl, ?_⟩
    rw [by_tree]
    simp only [Bool.and_eq_true, u64B_iff, decide_eq_true_eq] at hb
    unfold byV
    by_cases h : c ≤ a
    · rw [decide_eq_true h]; rfl
    · have : divOk a b c = true := by
        simp only [divOk, Bool.and_eq_true, u64B_iff, decide_eq_true_eq]
        omega
      rw [decide_eq_false h, this]; rfl
  · cases hr)

/-! The sign that is given back: a closure over two variables. -/
def signV (a b n : Int) : Int := bif (decide (a < 0) == decide (b < 0)) then n else IntKind.i64.wrap (0 - n)
def cSigned : Con := fun args _ => match args with
  | [.v (.int .i64 n), .ptr i 0, .ptr j 0] => .obj i fun o => match o with
    | .cells 3 [.v (.int .i64 a)] => .obj j fun o => match o with
      | .cells 3 [.v (.int .i64 b)] => .ret ⟨.v (.int .i64 (signV a b n)), []⟩
      | _ => .fail
    | _ => .fail
  | _ => .fail
theorem signed_tree (a b n : Int) : evFn Try.prog C0 cn0 4 Try.f48 [.v (.int .i64 n), .ptr 0 0, .ptr 1 0] [(0, .ro 3 [.v (.int .i64 a)]), (1, .ro 3 [.v (.int .i64 b)])] 2 K1 =
    sel (!(decide (a < 0) == decide (b < 0))) (some (.v (.int .i64 (IntKind.i64.wrap (0 - n))))) (some (.v (.int .i64 n))) := by kernel_rfl
theorem cSigned_ok : ∀ B, ConOk Try.prog B 48 cSigned := by
  intro B args ρ h w lo out ids hr hrh hfree hargs up
  unfold cSigned at hr
  split at hr
  · rename_i n i j
    obtain ⟨o, ids', hl, hr⟩ := obj_run hr
    split at hr
    · rename_i a
      obtain ⟨o', ids'', hl', hr⟩ := obj_run hr
      split at hr
      · rename_i b
        cases hr
        have ht : evFn Try.prog C0 cn0 4 Try.f48 [.v (.int .i64 n), .ptr 0 0, .ptr 1 0] [(0, .ro 3 [.v (.int .i64 a)]), (1, .ro 3 [.v (.int .i64 b)])] 2 K1 = some (.v (.int .i64 (signV a b n))) := by
          rw [signed_tree]
          unfold signV
          cases (decide (a < 0) == decide (b < 0)) <;> rfl
        have := con_reads (B := B) mixed Try.func48 (by kernel_rfl) rfl C0_ok (fun B' w => cn0_ok B' w _) [.v (.int .i64 n), .ptr 0 0, .ptr 1 0] (fun k => if k = 0 then i else j) _ 2 _ K1_spec ht ρ h w lo hrh up rfl
          (fun k oc hi => by
            simp only [look] at hi
            by_cases e : 0 = k
            · subst e; cases hi; exact ⟨by decide, rfl⟩
            · rw [beq_no e] at hi
              by_cases e' : 1 = k
              · subst e'; cases hi; exact ⟨by decide, rfl⟩
              · rw [beq_no e'] at hi; cases hi)
          (fun k oc hi => by
            simp only [look] at hi
            by_cases e : 0 = k
            · subst e; cases hi; exact ⟨_, hl, .inl rfl⟩
            · rw [beq_no e] at hi
              by_cases e' : 1 = k
              · subst e'; cases hi; exact ⟨_, hl', .inl rfl⟩
              · rw [beq_no e'] at hi; cases hi)
        exact this
      · cases hr
    · cases hr
  · cases hr

def CWide : FuncId → Option Con
  | 47 => some cRight
  | 50 => some cSize
  | 49 => some cTimes
  | 51 => some cBy
  | 52 => some cTold
  | 48 => some cSigned
  | 18 => some cMay
  | _ => none
theorem CWide_ok : ∀ B' g φ, CWide g = some φ → ConOk Try.prog B' g φ := by
  intro B' g φ h
  unfold CWide at h
  split at h
  · cases h; exact cRight_ok B'
  · cases h; exact cSize_ok B'
  · cases h; exact cTimes_ok B'
  · cases h; exact cBy_ok B'
  · cases h; exact cTold_ok B'
  · cases h; exact cSigned_ok B'
  · cases h; exact cMay_ok B'
  · cases h

end Go.Proofs.Ytdhmhdhfgojofaa.Ax
