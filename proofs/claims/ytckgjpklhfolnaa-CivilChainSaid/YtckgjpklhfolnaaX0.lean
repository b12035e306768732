-- By a program of this session's (wip/myprint.py), over the kit's print. Not trusted: Lean checks it.
import Derived.Test.YtckgjpklhfolnaaProg
import Derived.Below
import Derived.Deep.Draws
import Derived.Deep.AppendLies
import Derived.Maps.AppendAt
import Derived.OwnWalk
import Derived.Laws.BytesArg
import Derived.Laws.MakeOwn
import Derived.Laws.OwnMore
import Derived.Deep.OwnRows
import Derived.Tactics
import Derived.Lib.ConvBytes
import Derived.Laws.Slices
import Derived.WalkKit
import Derived.KernelRfl
import Derived.RowKit3
import Derived.Deep.LoopGhost
import Derived.Deep.QuietTactic
import Derived.BigQuiet
import Derived.WideLaws
import Derived.Deep.DeepCutAuto
import Derived.Deep.CutBlock
import Derived.Deep.RegionHeld3
import Derived.Laws.Rows
import Derived.Lib.AppendStr
import Derived.ArgAppend
import Derived.Laws.IdiomCopy
import Derived.OrdersHeld
import Derived.Laws.BitsLemmas
import Derived.RowKit
import Derived.Test.YtckgjpklhfolnaaWWords
import Derived.Test.YtckgjpklhfolnaaWLast
import Derived.Test.YtckgjpklhfolnaaWTab
import Derived.Test.YtckgjpklhfolnaaWFour
import Derived.Test.YtckgjpklhfolnaaWQPut
import Derived.Test.YtckgjpklhfolnaaWApart
import Derived.Test.YtckgjpklhfolnaaWArr
import Derived.Test.YtckgjpklhfolnaaWZeros
import Derived.Test.YtckgjpklhfolnaaWFoot
import Derived.Test.YtckgjpklhfolnaaWKept
import Derived.Test.YtckgjpklhfolnaaWShare
import Derived.Test.YtckgjpklhfolnaaWN
import Derived.Test.YtckgjpklhfolnaaWFootNe
import Derived.Test.YtckgjpklhfolnaaWAt
import Derived.Test.YtckgjpklhfolnaaWEqStruct
import Derived.Test.YtckgjpklhfolnaaWRepsOne
import Derived.Test.YtckgjpklhfolnaaWInv
import Derived.Test.YtckgjpklhfolnaaWInvWords
import Derived.Test.YtckgjpklhfolnaaWGuard
import Derived.Test.YtckgjpklhfolnaaWNEv
import Derived.Test.YtckgjpklhfolnaaWMore
namespace Go.Proofs.Ytckgjpklhfolnaa.Print
open Go.RowKit Go.Proofs.YtckgjpklhfolnaaW.PrintWords Go.Proofs.YtckgjpklhfolnaaW.PrintLast Go.Proofs.YtckgjpklhfolnaaW.PrintMore
attribute [local go_sem] max2_int min2_int max_two min_two max_three min_three max_four min_four   -- for this text's walks alone
set_option linter.unusedVariables false
set_option linter.unusedSimpArgs false



def errW : Option Int → Value
  | none => .nilIface
  | some c => .iface 0 (.int .i64 c)
theorem errW_none : errW none = .nilIface := rfl
theorem errW_some (c : Int) : errW (some c) = .iface 0 (.int .i64 c) := rfl

-- the values' own types

end Go.Proofs.Ytckgjpklhfolnaa.Print
