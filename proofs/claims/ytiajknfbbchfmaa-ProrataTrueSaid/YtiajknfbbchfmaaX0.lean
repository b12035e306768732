/- A text of this seat. -/
import Derived.Test.YtiajknfbbchfmaaProg
import Derived.Below
import Derived.Deep.Draws
import Derived.Deep.AppendLies
import Derived.Maps.AppendAt
import Derived.OwnWalk
import Derived.Laws.BytesArg
import Derived.Laws.MakeOwn
import Derived.Laws.OwnMore
import Derived.Deep.OwnRows
import Derived.Tactics
import Derived.Lib.ConvBytes
import Derived.Laws.Slices
import Derived.WalkKit
import Derived.KernelRfl
import Derived.RowKit3
import Derived.Deep.LoopGhost
import Derived.Deep.QuietTactic
import Derived.BigQuiet
import Derived.WideLaws
import Derived.Deep.DeepCutAuto
import Derived.Deep.CutBlock
import Derived.Deep.RegionHeld3
import Derived.Laws.Rows
import Derived.Lib.AppendStr
import Derived.ArgAppend
import Derived.Laws.IdiomCopy
import Derived.OrdersHeld
import Derived.Laws.BitsLemmas
import Derived.RowKit
import Derived.Test.YtiajknfbbchfmaaWWords
import Derived.Test.YtiajknfbbchfmaaWLast
import Derived.Test.YtiajknfbbchfmaaWAt
import Derived.Test.YtiajknfbbchfmaaWEqStruct
import Derived.Test.YtiajknfbbchfmaaWMore
namespace Go.Proofs.Ytiajknfbbchfmaa.Print
open Go.RowKit Go.Proofs.YtiajknfbbchfmaaW.PrintWords Go.Proofs.YtiajknfbbchfmaaW.PrintLast Go.Proofs.YtiajknfbbchfmaaW.PrintMore
attribute [local go_sem] max2_int min2_int max_two min_two max_three min_three max_four min_four   -- for this text's walks alone
set_option linter.unusedVariables false
set_option linter.unusedSimpArgs false
def errW : Option Int → Value
  | none => .nilIface
  | some c => .iface 0 (.int .i64 c)
theorem errW_none : errW none = .nilIface := rfl
theorem errW_some (c : Int) : errW (some c) = .iface 0 (.int .i64 c) := rfl
theorem info3 : (Try.prog.info? 3).map (fun i => (i.zero, i.size, i.bytes)) = some (some (.int .i64 0), 1, 8) := by kernel_rfl
@[go_sem high] theorem fld34_0 (x0 x1 x2 x3 x4 x5 x6 x7 x8 x9 x10 x11 x12 x13 x14 x15 x16 : Value) (w : World) : (Instr.field 34 (.agg #[x0, x1, x2, x3, x4, x5, x6, x7, x8, x9, x10, x11, x12, x13, x14, x15, x16]) 0).run Try.prog w = .ok (.agg #[x0, x1, x2]) w := by
  have hu := Try.underlying34
  simp only [Instr.field, Sem.run_bind, run_underlying hu, Result.andThen_ok]
  go_simp
  rfl
@[go_sem high] theorem fld34_1 (x0 x1 x2 x3 x4 x5 x6 x7 x8 x9 x10 x11 x12 x13 x14 x15 x16 : Value) (w : World) : (Instr.field 34 (.agg #[x0, x1, x2, x3, x4, x5, x6, x7, x8, x9, x10, x11, x12, x13, x14, x15, x16]) 1).run Try.prog w = .ok (.agg #[x3, x4, x5]) w := by
  have hu := Try.underlying34
  simp only [Instr.field, Sem.run_bind, run_underlying hu, Result.andThen_ok]
  go_simp
  rfl
@[go_sem high] theorem fld34_2 (x0 x1 x2 x3 x4 x5 x6 x7 x8 x9 x10 x11 x12 x13 x14 x15 x16 : Value) (w : World) : (Instr.field 34 (.agg #[x0, x1, x2, x3, x4, x5, x6, x7, x8, x9, x10, x11, x12, x13, x14, x15, x16]) 2).run Try.prog w = .ok (x6) w := by
  have hu := Try.underlying34
  simp only [Instr.field, Sem.run_bind, run_underlying hu, Result.andThen_ok]
  go_simp
  rfl
@[go_sem high] theorem fld34_3 (x0 x1 x2 x3 x4 x5 x6 x7 x8 x9 x10 x11 x12 x13 x14 x15 x16 : Value) (w : World) : (Instr.field 34 (.agg #[x0, x1, x2, x3, x4, x5, x6, x7, x8, x9, x10, x11, x12, x13, x14, x15, x16]) 3).run Try.prog w = .ok (x7) w := by
  have hu := Try.underlying34
  simp only [Instr.field, Sem.run_bind, run_underlying hu, Result.andThen_ok]
  go_simp
  rfl
@[go_sem high] theorem fld34_4 (x0 x1 x2 x3 x4 x5 x6 x7 x8 x9 x10 x11 x12 x13 x14 x15 x16 : Value) (w : World) : (Instr.field 34 (.agg #[x0, x1, x2, x3, x4, x5, x6, x7, x8, x9, x10, x11, x12, x13, x14, x15, x16]) 4).run Try.prog w = .ok (x8) w := by
  have hu := Try.underlying34
  simp only [Instr.field, Sem.run_bind, run_underlying hu, Result.andThen_ok]
  go_simp
  rfl
@[go_sem high] theorem fld34_5 (x0 x1 x2 x3 x4 x5 x6 x7 x8 x9 x10 x11 x12 x13 x14 x15 x16 : Value) (w : World) : (Instr.field 34 (.agg #[x0, x1, x2, x3, x4, x5, x6, x7, x8, x9, x10, x11, x12, x13, x14, x15, x16]) 5).run Try.prog w = .ok (x9) w := by
  have hu := Try.underlying34
  simp only [Instr.field, Sem.run_bind, run_underlying hu, Result.andThen_ok]
  go_simp
  rfl
@[go_sem high] theorem fld34_6 (x0 x1 x2 x3 x4 x5 x6 x7 x8 x9 x10 x11 x12 x13 x14 x15 x16 : Value) (w : World) : (Instr.field 34 (.agg #[x0, x1, x2, x3, x4, x5, x6, x7, x8, x9, x10, x11, x12, x13, x14, x15, x16]) 6).run Try.prog w = .ok (x10) w := by
  have hu := Try.underlying34
  simp only [Instr.field, Sem.run_bind, run_underlying hu, Result.andThen_ok]
  go_simp
  rfl
@[go_sem high] theorem fld34_7 (x0 x1 x2 x3 x4 x5 x6 x7 x8 x9 x10 x11 x12 x13 x14 x15 x16 : Value) (w : World) : (Instr.field 34 (.agg #[x0, x1, x2, x3, x4, x5, x6, x7, x8, x9, x10, x11, x12, x13, x14, x15, x16]) 7).run Try.prog w = .ok (x11) w := by
  have hu := Try.underlying34
  simp only [Instr.field, Sem.run_bind, run_underlying hu, Result.andThen_ok]
  go_simp
  rfl
@[go_sem high] theorem fld34_8 (x0 x1 x2 x3 x4 x5 x6 x7 x8 x9 x10 x11 x12 x13 x14 x15 x16 : Value) (w : World) : (Instr.field 34 (.agg #[x0, x1, x2, x3, x4, x5, x6, x7, x8, x9, x10, x11, x12, x13, x14, x15, x16]) 8).run Try.prog w = .ok (x12) w := by
  have hu := Try.underlying34
  simp only [Instr.field, Sem.run_bind, run_underlying hu, Result.andThen_ok]
  go_simp
  rfl
@[go_sem high] theorem fld34_9 (x0 x1 x2 x3 x4 x5 x6 x7 x8 x9 x10 x11 x12 x13 x14 x15 x16 : Value) (w : World) : (Instr.field 34 (.agg #[x0, x1, x2, x3, x4, x5, x6, x7, x8, x9, x10, x11, x12, x13, x14, x15, x16]) 9).run Try.prog w = .ok (x13) w := by
  have hu := Try.underlying34
  simp only [Instr.field, Sem.run_bind, run_underlying hu, Result.andThen_ok]
  go_simp
  rfl
@[go_sem high] theorem fld34_10 (x0 x1 x2 x3 x4 x5 x6 x7 x8 x9 x10 x11 x12 x13 x14 x15 x16 : Value) (w : World) : (Instr.field 34 (.agg #[x0, x1, x2, x3, x4, x5, x6, x7, x8, x9, x10, x11, x12, x13, x14, x15, x16]) 10).run Try.prog w = .ok (x14) w := by
  have hu := Try.underlying34
  simp only [Instr.field, Sem.run_bind, run_underlying hu, Result.andThen_ok]
  go_simp
  rfl
@[go_sem high] theorem fld34_11 (x0 x1 x2 x3 x4 x5 x6 x7 x8 x9 x10 x11 x12 x13 x14 x15 x16 : Value) (w : World) : (Instr.field 34 (.agg #[x0, x1, x2, x3, x4, x5, x6, x7, x8, x9, x10, x11, x12, x13, x14, x15, x16]) 11).run Try.prog w = .ok (x15) w := by
  have hu := Try.underlying34
  simp only [Instr.field, Sem.run_bind, run_underlying hu, Result.andThen_ok]
  go_simp
  rfl
@[go_sem high] theorem fld34_12 (x0 x1 x2 x3 x4 x5 x6 x7 x8 x9 x10 x11 x12 x13 x14 x15 x16 : Value) (w : World) : (Instr.field 34 (.agg #[x0, x1, x2, x3, x4, x5, x6, x7, x8, x9, x10, x11, x12, x13, x14, x15, x16]) 12).run Try.prog w = .ok (x16) w := by
  have hu := Try.underlying34
  simp only [Instr.field, Sem.run_bind, run_underlying hu, Result.andThen_ok]
  go_simp
  rfl
@[go_sem high] theorem fld70_0 (x0 x1 : Value) (w : World) : (Instr.field 70 (.agg #[x0, x1]) 0).run Try.prog w = .ok (x0) w := by
  have hu := Try.underlying70
  simp only [Instr.field, Sem.run_bind, run_underlying hu, Result.andThen_ok]
  go_simp
  rfl
@[go_sem high] theorem fld70_1 (x0 x1 : Value) (w : World) : (Instr.field 70 (.agg #[x0, x1]) 1).run Try.prog w = .ok (x1) w := by
  have hu := Try.underlying70
  simp only [Instr.field, Sem.run_bind, run_underlying hu, Result.andThen_ok]
  go_simp
  rfl
end Go.Proofs.Ytiajknfbbchfmaa.Print
