-- By a program of this session's (wip/myprint.py), over the kit's print. Not trusted: Lean checks it.
import Derived.Test.YtdhmhdhfgojofaaProg
import Derived.Below
import Derived.Deep.Draws
import Derived.Deep.AppendLies
import Derived.Maps.AppendAt
import Derived.OwnWalk
import Derived.Laws.BytesArg
import Derived.Laws.MakeOwn
import Derived.Laws.OwnMore
import Derived.Deep.OwnRows
import Derived.Tactics
import Derived.Lib.ConvBytes
import Derived.Laws.Slices
import Derived.WalkKit
import Derived.KernelRfl
import Derived.RowKit3
import Derived.Deep.LoopGhost
import Derived.Deep.QuietTactic
import Derived.BigQuiet
import Derived.WideLaws
import Derived.Deep.DeepCutAuto
import Derived.Deep.CutBlock
import Derived.Deep.RegionHeld3
import Derived.Laws.Rows
import Derived.Lib.AppendStr
import Derived.ArgAppend
import Derived.Laws.IdiomCopy
import Derived.OrdersHeld
import Derived.Laws.BitsLemmas
import Derived.RowKit
import Derived.Test.YtdhmhdhfgojofaaWWords
import Derived.Test.YtdhmhdhfgojofaaWLast
import Derived.Test.YtdhmhdhfgojofaaWTab
import Derived.Test.YtdhmhdhfgojofaaWQPut
import Derived.Test.YtdhmhdhfgojofaaWApart
import Derived.Test.YtdhmhdhfgojofaaWArr
import Derived.Test.YtdhmhdhfgojofaaWZeros
import Derived.Test.YtdhmhdhfgojofaaWFoot
import Derived.Test.YtdhmhdhfgojofaaWKept
import Derived.Test.YtdhmhdhfgojofaaWShare
import Derived.Test.YtdhmhdhfgojofaaWN
import Derived.Test.YtdhmhdhfgojofaaWFootNe
import Derived.Test.YtdhmhdhfgojofaaWRepsOne
import Derived.Test.YtdhmhdhfgojofaaWNEv
import Derived.Test.YtdhmhdhfgojofaaWMore
namespace Go.Proofs.Ytdhmhdhfgojofaa.Print
open Go.RowKit Go.Proofs.YtdhmhdhfgojofaaW.PrintWords Go.Proofs.YtdhmhdhfgojofaaW.PrintLast Go.Proofs.YtdhmhdhfgojofaaW.PrintMore
attribute [local go_sem] max2_int min2_int max_two min_two max_three min_three max_four min_four   -- for this text's walks alone
set_option linter.unusedVariables false
set_option linter.unusedSimpArgs false



def errW : Option Int → Value
  | none => .nilIface
  | some c => .iface 0 (.int .i64 c)
theorem errW_none : errW none = .nilIface := rfl
theorem errW_some (c : Int) : errW (some c) = .iface 0 (.int .i64 c) := rfl

theorem info3 : (Try.prog.info? 3).map (fun i => (i.zero, i.size, i.bytes)) = some (some (.int .i64 0), 1, 8) := by kernel_rfl
-- the values' own types

@[go_sem high] theorem fld64_0 (x0 x1 : Value) (w : World) : (Instr.field 64 (.agg #[x0, x1]) 0).run Try.prog w = .ok (x0) w := by
  have hu := Try.underlying64
  simp only [Instr.field, Sem.run_bind, run_underlying hu, Result.andThen_ok]
  go_simp
  rfl
@[go_sem high] theorem fld64_1 (x0 x1 : Value) (w : World) : (Instr.field 64 (.agg #[x0, x1]) 1).run Try.prog w = .ok (x1) w := by
  have hu := Try.underlying64
  simp only [Instr.field, Sem.run_bind, run_underlying hu, Result.andThen_ok]
  go_simp
  rfl
end Go.Proofs.Ytdhmhdhfgojofaa.Print
