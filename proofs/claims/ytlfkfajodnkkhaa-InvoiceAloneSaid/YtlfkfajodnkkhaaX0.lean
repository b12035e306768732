/- A text of this seat. -/
import Derived.Test.YtlfkfajodnkkhaaProg
import Derived.Below
import Derived.Deep.Draws
import Derived.Deep.AppendLies
import Derived.Maps.AppendAt
import Derived.OwnWalk
import Derived.Laws.BytesArg
import Derived.Laws.MakeOwn
import Derived.Laws.OwnMore
import Derived.Deep.OwnRows
import Derived.Tactics
import Derived.Lib.ConvBytes
import Derived.Laws.Slices
import Derived.WalkKit
import Derived.KernelRfl
import Derived.RowKit3
import Derived.Deep.LoopGhost
import Derived.Deep.QuietTactic
import Derived.BigQuiet
import Derived.WideLaws
import Derived.Deep.DeepCutAuto
import Derived.Deep.CutBlock
import Derived.Deep.RegionHeld3
import Derived.Laws.Rows
import Derived.Lib.AppendStr
import Derived.ArgAppend
import Derived.Laws.IdiomCopy
import Derived.OrdersHeld
import Derived.Laws.BitsLemmas
import Derived.RowKit
import Derived.Test.YtlfkfajodnkkhaaWWords
import Derived.Test.YtlfkfajodnkkhaaWLast
import Derived.Test.YtlfkfajodnkkhaaWAt
import Derived.Test.YtlfkfajodnkkhaaWEqStruct
import Derived.Test.YtlfkfajodnkkhaaWMore
namespace Go.Proofs.Ytlfkfajodnkkhaa.Print
open Go.RowKit Go.Proofs.YtlfkfajodnkkhaaW.PrintWords Go.Proofs.YtlfkfajodnkkhaaW.PrintLast Go.Proofs.YtlfkfajodnkkhaaW.PrintMore
attribute [local go_sem] max2_int min2_int max_two min_two max_three min_three max_four min_four   -- for this text's walks alone
set_option linter.unusedVariables false
set_option linter.unusedSimpArgs false
def errW:Option Int→Value
 | none=>.nilIface
 | some c=>.iface 0 (.int .i64 c)
theorem errW_none:errW none = .nilIface:=rfl
theorem errW_some (c:Int):errW (some c) = .iface 0 (.int .i64 c):=rfl
theorem info3:(Try.prog.info? 3).map (fun i=>(i.zero,i.size,i.bytes))=some (some (.int .i64 0),1,8):=by kernel_rfl
structure S29 where
 f0:Int
 f1:Int
 f2:Bool
 f3:Int
def k29:Kd S29:=Kd.iso (Kd.pair (Kd.int .i64) (Kd.pair (Kd.int .i64) (Kd.pair Kd.bool (Kd.int .i64)))) (fun x:S29=>(x.f0,x.f1,x.f2,x.f3))
theorem k29_open {w:World} {x:S29} {cs:List Value} (h:k29.K w x cs):cs=[.int .i64 x.f0,.int .i64 x.f1,.bool x.f2,.int .i64 x.f3]:=by
 obtain ⟨_,_,rfl,rfl,⟨_,_,rfl,rfl,⟨_,_,rfl,rfl,rfl⟩⟩⟩:=h
 exact rfl
structure S66 where
 f0:Int
 f1:Int
 f2:Bool
 f3:Int
structure S49 where
 f0:Bool
 f1:Int
 f2:Int
 f3:Int
structure S73 where
 f0:Bool
 f1:(List Int)
structure S46 where
 f0:Int
 f1:Int
@[go_sem high] theorem fld73_0 (x0 x1:Value) (w:World):(Instr.field 73 (.agg #[x0,x1]) 0).run Try.prog w = .ok (x0) w:=by
 have hu:=Try.underlying73
 simp only [Instr.field,Sem.run_bind,run_underlying hu,Result.andThen_ok]
 go_simp
 rfl
@[go_sem high] theorem fld73_1 (x0 x1:Value) (w:World):(Instr.field 73 (.agg #[x0,x1]) 1).run Try.prog w = .ok (x1) w:=by
 have hu:=Try.underlying73
 simp only [Instr.field,Sem.run_bind,run_underlying hu,Result.andThen_ok]
 go_simp
 rfl
end Go.Proofs.Ytlfkfajodnkkhaa.Print
