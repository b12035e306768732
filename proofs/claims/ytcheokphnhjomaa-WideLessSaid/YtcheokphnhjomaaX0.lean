-- By a program of this session's (wip/myprint.py), over the kit's print. Not trusted: Lean checks it.
import Derived.Test.YtcheokphnhjomaaProg
import Derived.Below
import Derived.Deep.Draws
import Derived.Deep.AppendLies
import Derived.Maps.AppendAt
import Derived.OwnWalk
import Derived.Laws.BytesArg
import Derived.Laws.MakeOwn
import Derived.Laws.OwnMore
import Derived.Deep.OwnRows
import Derived.Tactics
import Derived.Lib.ConvBytes
import Derived.Laws.Slices
import Derived.WalkKit
import Derived.KernelRfl
import Derived.RowKit3
import Derived.Deep.LoopGhost
import Derived.Deep.QuietTactic
import Derived.BigQuiet
import Derived.WideLaws
import Derived.Deep.DeepCutAuto
import Derived.Deep.CutBlock
import Derived.Deep.RegionHeld3
import Derived.Laws.Rows
import Derived.Lib.AppendStr
import Derived.ArgAppend
import Derived.Laws.IdiomCopy
import Derived.OrdersHeld
import Derived.Laws.BitsLemmas
import Derived.RowKit
import Derived.Test.YtcheokphnhjomaaWWords
import Derived.Test.YtcheokphnhjomaaWLast
import Derived.Test.YtcheokphnhjomaaWTab
import Derived.Test.YtcheokphnhjomaaWFour
import Derived.Test.YtcheokphnhjomaaWQPut
import Derived.Test.YtcheokphnhjomaaWApart
import Derived.Test.YtcheokphnhjomaaWArr
import Derived.Test.YtcheokphnhjomaaWZeros
import Derived.Test.YtcheokphnhjomaaWFoot
import Derived.Test.YtcheokphnhjomaaWKept
import Derived.Test.YtcheokphnhjomaaWShare
import Derived.Test.YtcheokphnhjomaaWN
import Derived.Test.YtcheokphnhjomaaWFootNe
import Derived.Test.YtcheokphnhjomaaWAt
import Derived.Test.YtcheokphnhjomaaWEqStruct
import Derived.Test.YtcheokphnhjomaaWRepsOne
import Derived.Test.YtcheokphnhjomaaWInv
import Derived.Test.YtcheokphnhjomaaWInvWords
import Derived.Test.YtcheokphnhjomaaWGuard
import Derived.Test.YtcheokphnhjomaaWNEv
import Derived.Test.YtcheokphnhjomaaWMore
namespace Go.Proofs.Ytcheokphnhjomaa.Print
open Go.RowKit Go.Proofs.YtcheokphnhjomaaW.PrintWords Go.Proofs.YtcheokphnhjomaaW.PrintLast Go.Proofs.YtcheokphnhjomaaW.PrintMore
attribute [local go_sem] max2_int min2_int max_two min_two max_three min_three max_four min_four   -- for this text's walks alone
set_option linter.unusedVariables false
set_option linter.unusedSimpArgs false



def errW : Option Int → Value
  | none => .nilIface
  | some c => .iface 0 (.int .i64 c)
theorem errW_none : errW none = .nilIface := rfl
theorem errW_some (c : Int) : errW (some c) = .iface 0 (.int .i64 c) := rfl

theorem info3 : (Try.prog.info? 3).map (fun i => (i.zero, i.size, i.bytes)) = some (some (.int .i64 0), 1, 8) := by kernel_rfl
-- the values' own types

end Go.Proofs.Ytcheokphnhjomaa.Print
