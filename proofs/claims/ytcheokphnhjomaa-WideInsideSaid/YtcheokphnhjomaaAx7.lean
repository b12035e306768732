/- AX 7: the operations, over the abstract heap. -/
import Derived.Test.YtcheokphnhjomaaAx6
namespace Go.Proofs.Ytcheokphnhjomaa.Ax
open Go Go.RowKit
set_option linter.unusedVariables false
set_option linter.unusedSimpArgs false

def w1 {α : Type} (x : Option SV) (k : SV → Rd α) : Rd α := match x with
  | some s => k s
  | none => .fail
def evL (ev : Operand → Option SV) : List Operand → Option (List SV)
  | [] => some []
  | x :: l => match ev x with
    | none => none
    | some s => match evL ev l with
      | none => none
      | some r => some (s :: r)
def evParts (ev : Operand → Option SV) : List (Nat × Operand) → Option (List (Nat × SV))
  | [] => some []
  | (i, x) :: l => match ev x with
    | none => none
    | some s => match evParts ev l with
      | none => none
      | some r => some ((i, s) :: r)
/-- Two plain values. -/
def bin1 (P : Program) (op : BinOp) (t : TypeId) (x y : Value) : Rd Value :=
  match x with
  | .int k a => match y with
    | .int k' b => match op with
      | .shl => .br (decide (b < 0)) .fail (.ret (.int k (k.wrap (a * 2 ^ (min b.toNat k.bits)))))
      | .shr => .br (decide (b < 0)) .fail (.ret (.int k (a.fdiv (2 ^ (min b.toNat k.bits)))))
      | op => match decEq k k' with
        | .isFalse _ => .fail
        | .isTrue _ => match op with
          | .add => .ret (.int k (k.wrap (a + b)))
          | .sub => .ret (.int k (k.wrap (a - b)))
          | .mul => .ret (.int k (k.wrap (a * b)))
          | .quo => .br (decide (b = 0)) .fail (.ret (.int k (k.wrap (a.tdiv b))))
          | .rem => .br (decide (b = 0)) .fail (.ret (.int k (a.tmod b)))
          | .and => .ret (.int k (bits .and k a b))
          | .or => .ret (.int k (bits .or k a b))
          | .xor => .ret (.int k (bits .xor k a b))
          | .andNot => .ret (.int k (bits .andNot k a b))
          | .eql => .ret (.bool (a == b))
          | .neq => .ret (.bool (a != b))
          | .lss => .ret (.bool (decide (a < b)))
          | .leq => .ret (.bool (decide (a ≤ b)))
          | .gtr => .ret (.bool (decide (b < a)))
          | .geq => .ret (.bool (decide (b ≤ a)))
          | _ => .fail
    | _ => .fail
  | .bool a => match y with
    | .bool b => match P.underlying t with
      | some .bool => match op with
        | .eql => .ret (.bool (a == b))
        | .neq => .ret (.bool (!(a == b)))
        | _ => .fail
      | _ => .fail
    | _ => .fail
  | .string a => match y with
    | .string b => match op with
      | .eql => .ret (.bool (a.toList == b.toList))
      | .neq => .ret (.bool (!(a.toList == b.toList)))
      | .lss => .ret (.bool (Op.bytesLess a.toList b.toList))
      | .gtr => .ret (.bool (!(Op.bytesLess a.toList b.toList || a.toList == b.toList)))
      | .leq => .ret (.bool (Op.bytesLess a.toList b.toList || a.toList == b.toList))
      | .geq => .ret (.bool (!Op.bytesLess a.toList b.toList))
      | .add => .br (decide (((a.size + b.size : Nat) : Int) > IntKind.i64.max)) .fail (.ret (.string (a ++ b)))
      | _ => .fail
    | _ => .fail
  | _ => .fail

theorem bin1_sound {P : Program} {op : BinOp} {t : TypeId} {x y v : Value} {h : Hp} {ids : List Nat} (hr : (bin1 P op t x y).run h = some (v, ids)) (X Y : Operand) (w : World) :
    ((do eqGuard op t X Y x y; binOp op t x y : Sem Value)).run P w = .ok v w := by
  unfold bin1 at hr
  cases x with
  | int k a =>
    cases y with
    | int k' b =>
      rw [eqGuard_at_int]
      simp only [Sem.run_bind, Sem.run_pure, Result.andThen_ok]
      by_cases hsh : op = .shl
      · subst hsh
        simp only [Rd.run] at hr
        split at hr
        · cases hr
        · rename_i hb
          cases hr
          have hb' : ¬ b < 0 := by simpa using hb
          simp [binOp_shl, Op.shift, hb']
      by_cases hsr : op = .shr
      · subst hsr
        simp only [Rd.run] at hr
        split at hr
        · cases hr
        · rename_i hb
          cases hr
          have hb' : ¬ b < 0 := by simpa using hb
          simp [binOp_shr, Op.shift, hb']
      by_cases hk : k = k'
      · subst hk
        have hd : decEq k k = .isTrue rfl := by cases k <;> rfl
        cases op <;> simp only [hd, Rd.run, reduceCtorEq, not_true_eq_false, not_false_eq_true] at hr hsh hsr <;>
          first
            | (exact absurd rfl hsh)
            | (exact absurd rfl hsr)
            | (cases hr; simp [binOp_add, binOp_sub, binOp_mul, Op.intArith]; done)
            | (cases hr; simp [binOp_and, binOp_or, binOp_xor, binOp_andNot, intBits_and, intBits_or, intBits_xor, intBits_andNot]; done)
            | (cases hr; simp [binOp_eql, binOp_neq, binOp_lss, binOp_leq, binOp_gtr, binOp_geq]; done)
            | (split at hr
               · cases hr
               · rename_i hb
                 cases hr
                 have hb' : ¬ b = 0 := by simpa using hb
                 simp [binOp_quo, binOp_rem, Op.intDiv, hb'])
      · exfalso
        have hd : ∃ h, decEq k k' = .isFalse h := by
          cases e : decEq k k' with
          | isTrue h => exact absurd h hk
          | isFalse h => exact ⟨h, rfl⟩
        obtain ⟨h', hd⟩ := hd
        cases op <;> simp only [hd, Rd.run, reduceCtorEq] at hr <;> first | (exact hsh rfl) | (exact hsr rfl)
    | _ => cases hr
  | bool a =>
    cases y with
    | bool b =>
      rw [eqGuard_at_bool]
      simp only [Sem.run_bind, Sem.run_pure, Result.andThen_ok]
      cases hu : P.underlying t with
      | none => simp only [hu, Rd.run, reduceCtorEq] at hr
      | some d =>
        cases d <;> simp only [hu, Rd.run, reduceCtorEq] at hr
        have he : (Op.equal t (.bool a) (.bool b)).run P w = .ok (a == b) w := by
          have gen : ∀ d, (Op.equalIn (d + 1) t (.bool a) (.bool b)).run P w = .ok (a == b) w := by
            intro d
            simp only [Op.equalIn, Sem.run_bind, run_underlying hu, Result.andThen_ok, Sem.run_pure]
          exact gen 9999
        cases op <;> simp only [Rd.run, reduceCtorEq] at hr
        · cases hr
          show ((do pure (.bool (← Op.equal t (.bool a) (.bool b))) : Sem Value)).run P w = _
          simp only [Sem.run_bind, he, Result.andThen_ok, Sem.run_pure]
        · cases hr
          show ((do pure (.bool (!(← Op.equal t (.bool a) (.bool b)))) : Sem Value)).run P w = _
          simp only [Sem.run_bind, he, Result.andThen_ok, Sem.run_pure]
    | _ => cases hr
  | string a =>
    cases y with
    | string b =>
      rw [eqGuard_at_string]
      simp only [Sem.run_bind, Sem.run_pure, Result.andThen_ok]
      cases op <;> simp only [Rd.run, reduceCtorEq] at hr <;>
        first
          | (cases hr; simp [binOp, Op.stringOp]; done)
          | (split at hr
             · cases hr
             · rename_i hb
               cases hr
               have hb' : ¬ ((a.size + b.size : Nat) : Int) > IntKind.i64.max := by simpa using hb
               simp only [binOp, Op.stringOp, Sem.run_ite, if_neg hb', Sem.run_pure])
    | _ => cases hr
  | _ => cases hr

end Go.Proofs.Ytcheokphnhjomaa.Ax
