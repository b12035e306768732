-- By a program of this session's (wip/myprint.py), over the kit's print. Not trusted: Lean checks it.
import Derived.Test.YtfmihohfkphamaaProg
import Derived.Below
import Derived.Deep.Draws
import Derived.Deep.AppendLies
import Derived.Maps.AppendAt
import Derived.OwnWalk
import Derived.Laws.BytesArg
import Derived.Laws.MakeOwn
import Derived.Laws.OwnMore
import Derived.Deep.OwnRows
import Derived.Tactics
import Derived.Lib.ConvBytes
import Derived.Laws.Slices
import Derived.WalkKit
import Derived.KernelRfl
import Derived.RowKit3
import Derived.Deep.LoopGhost
import Derived.Deep.QuietTactic
import Derived.BigQuiet
import Derived.WideLaws
import Derived.Deep.DeepCutAuto
import Derived.Deep.CutBlock
import Derived.Deep.RegionHeld3
import Derived.Laws.Rows
import Derived.Lib.AppendStr
import Derived.ArgAppend
import Derived.Laws.IdiomCopy
import Derived.OrdersHeld
import Derived.Laws.BitsLemmas
import Derived.RowKit
import Derived.Test.YtfmihohfkphamaaWWords
import Derived.Test.YtfmihohfkphamaaWLast
import Derived.Test.YtfmihohfkphamaaWTab
import Derived.Test.YtfmihohfkphamaaWFour
import Derived.Test.YtfmihohfkphamaaWQPut
import Derived.Test.YtfmihohfkphamaaWApart
import Derived.Test.YtfmihohfkphamaaWArr
import Derived.Test.YtfmihohfkphamaaWZeros
import Derived.Test.YtfmihohfkphamaaWFoot
import Derived.Test.YtfmihohfkphamaaWKept
import Derived.Test.YtfmihohfkphamaaWShare
import Derived.Test.YtfmihohfkphamaaWN
import Derived.Test.YtfmihohfkphamaaWFootNe
import Derived.Test.YtfmihohfkphamaaWAt
import Derived.Test.YtfmihohfkphamaaWEqStruct
import Derived.Test.YtfmihohfkphamaaWRepsOne
import Derived.Test.YtfmihohfkphamaaWInv
import Derived.Test.YtfmihohfkphamaaWInvWords
import Derived.Test.YtfmihohfkphamaaWGuard
import Derived.Test.YtfmihohfkphamaaWNEv
import Derived.Test.YtfmihohfkphamaaWMore
namespace Go.Proofs.Ytfmihohfkphamaa.Print
open Go.RowKit Go.Proofs.YtfmihohfkphamaaW.PrintWords Go.Proofs.YtfmihohfkphamaaW.PrintLast Go.Proofs.YtfmihohfkphamaaW.PrintMore
attribute [local go_sem] max2_int min2_int max_two min_two max_three min_three max_four min_four   -- for this text's walks alone
set_option linter.unusedVariables false
set_option linter.unusedSimpArgs false



def errW : Option Int → Value
  | none => .nilIface
  | some c => .iface 0 (.int .i64 c)
theorem errW_none : errW none = .nilIface := rfl
theorem errW_some (c : Int) : errW (some c) = .iface 0 (.int .i64 c) := rfl

theorem info3 : (Try.prog.info? 3).map (fun i => (i.zero, i.size, i.bytes)) = some (some (.int .i64 0), 1, 8) := by kernel_rfl
-- the values' own types

@[go_sem high] theorem fld83_0 (x0 x1 : Value) (w : World) : (Instr.field 83 (.agg #[x0, x1]) 0).run Try.prog w = .ok (x0) w := by
  have hu := Try.underlying83
  simp only [Instr.field, Sem.run_bind, run_underlying hu, Result.andThen_ok]
  go_simp
  rfl
@[go_sem high] theorem fld83_1 (x0 x1 : Value) (w : World) : (Instr.field 83 (.agg #[x0, x1]) 1).run Try.prog w = .ok (x1) w := by
  have hu := Try.underlying83
  simp only [Instr.field, Sem.run_bind, run_underlying hu, Result.andThen_ok]
  go_simp
  rfl
end Go.Proofs.Ytfmihohfkphamaa.Print
