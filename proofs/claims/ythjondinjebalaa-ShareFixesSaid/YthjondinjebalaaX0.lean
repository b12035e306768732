/- A text of this seat. -/
import Derived.Test.YthjondinjebalaaProg
import Derived.Below
import Derived.Deep.Draws
import Derived.Deep.AppendLies
import Derived.Maps.AppendAt
import Derived.OwnWalk
import Derived.Laws.BytesArg
import Derived.Laws.MakeOwn
import Derived.Laws.OwnMore
import Derived.Deep.OwnRows
import Derived.Tactics
import Derived.Lib.ConvBytes
import Derived.Laws.Slices
import Derived.WalkKit
import Derived.KernelRfl
import Derived.RowKit3
import Derived.Deep.LoopGhost
import Derived.Deep.QuietTactic
import Derived.BigQuiet
import Derived.WideLaws
import Derived.Deep.DeepCutAuto
import Derived.Deep.CutBlock
import Derived.Deep.RegionHeld3
import Derived.Laws.Rows
import Derived.Lib.AppendStr
import Derived.ArgAppend
import Derived.Laws.IdiomCopy
import Derived.OrdersHeld
import Derived.Laws.BitsLemmas
import Derived.RowKit
import Derived.Test.YthjondinjebalaaWWords
import Derived.Test.YthjondinjebalaaWLast
import Derived.Test.YthjondinjebalaaWAt
import Derived.Test.YthjondinjebalaaWEqStruct
import Derived.Test.YthjondinjebalaaWMore
namespace Go.Proofs.Ythjondinjebalaa.Print
open Go.RowKit Go.Proofs.YthjondinjebalaaW.PrintWords Go.Proofs.YthjondinjebalaaW.PrintLast Go.Proofs.YthjondinjebalaaW.PrintMore
attribute [local go_sem] max2_int min2_int max_two min_two max_three min_three max_four min_four   -- for this text's walks alone
set_option linter.unusedVariables false
set_option linter.unusedSimpArgs false
def errW:Option Int→Value
 | none=>.nilIface
 | some c=>.iface 0 (.int .i64 c)
theorem errW_none:errW none = .nilIface:=rfl
theorem errW_some (c:Int):errW (some c) = .iface 0 (.int .i64 c):=rfl
theorem info3:(Try.prog.info? 3).map (fun i=>(i.zero,i.size,i.bytes))=some (some (.int .i64 0),1,8):=by kernel_rfl
theorem info4:(Try.prog.info? 4).map (fun i=>(i.zero,i.size,i.bytes))=some (some (.bool false),1,1):=by kernel_rfl
theorem info56:(Try.prog.info? 56).map (fun i=>(i.zero,i.size,i.bytes))=some (some (.agg #[(.bool false),(.slice none 0 0)]),2,32):=by kernel_rfl
structure S56 where
 f0:Bool
 f1:(List Int)
def z56:S56:=⟨false,([]:List Int)⟩
def k56:Kd S56:=Kd.iso (Kd.pair Kd.bool (Kd.slice 3 (Kd.int .i64))) (fun x:S56=>(x.f0,x.f1))
theorem k56_open {w:World} {x:S56} {cs:List Value} (h:k56.K w x cs):∃ A1 c1,cs=[.bool x.f0,.slice A1 x.f1.length c1]∧x.f1.length≤c1∧(Kd.int .i64).C w A1 x.f1.length x.f1:=by
 obtain ⟨_,_,rfl,rfl,⟨A1,c1,rfl,l1,g1⟩⟩:=h
 exact ⟨A1,c1,rfl,l1,g1⟩
theorem k56_openM {w:World} {base:Nat} {ok:Nat→Prop} {x:S56} {cs:List Value} (h:k56.M w base ok x cs):∃ v1,cs=[.bool x.f0,v1]∧(Kd.int .i64).R 3 w base ok v1 x.f1:=by
 obtain ⟨_,_,rfl,rfl,⟨v1,rfl,g1⟩⟩:=h
 exact ⟨v1,rfl,g1⟩
theorem k56_mkM (w:World) (base:Nat) (ok:Nat→Prop) (x:S56) {v1:Value} (g1:(Kd.int .i64).R 3 w base ok v1 x.f1):k56.M w base ok x [.bool x.f0,v1]:=⟨[.bool x.f0],[v1],rfl,rfl,⟨v1,rfl,g1⟩⟩
def rd_T56 (xs:List S56) (i:Int):S56:=xs.getD i.toNat z56
theorem at_T56 {w:World} {A:Option Addr} {n:Nat} {xs:List S56} (h:Kd.C k56 w A n xs) (i:Int) (h0:0≤i) (h1:i<n):∃ ad A1 c1,A=some ad∧w.cell? (ad.add (i.toNat * 2))=some (.bool (rd_T56 xs i).f0)∧w.cell? ⟨(ad.add (i.toNat * 2)).block,(ad.add (i.toNat * 2)).off+1,none⟩=some (.slice A1 (rd_T56 xs i).f1.length c1)∧(rd_T56 xs i).f1.length≤c1∧(Kd.int .i64).C w A1 (rd_T56 xs i).f1.length (rd_T56 xs i).f1:=by
 obtain ⟨ad,c,e,_,hK,hc0⟩:=Kd.C_get h z56 i h0 h1
 have hc:∀ j u,c[j]? = some u→w.cell? (ad.add (i.toNat * 2+j))=some u:=hc0
 obtain ⟨A1,c1,rfl,l1,g1⟩:=k56_open hK
 exact ⟨ad,A1,c1,e,hc 0 _ rfl,by rw [← add_field _ _ 1 (by omega)];exact hc 1 _ rfl,l1,g1⟩
@[go_sem high] theorem fld56_0 (x0 x1:Value) (w:World):(Instr.field 56 (.agg #[x0,x1]) 0).run Try.prog w = .ok (x0) w:=by
 have hu:=Try.underlying56
 simp only [Instr.field,Sem.run_bind,run_underlying hu,Result.andThen_ok]
 go_simp
 rfl
@[go_sem high] theorem fld56_1 (x0 x1:Value) (w:World):(Instr.field 56 (.agg #[x0,x1]) 1).run Try.prog w = .ok (x1) w:=by
 have hu:=Try.underlying56
 simp only [Instr.field,Sem.run_bind,run_underlying hu,Result.andThen_ok]
 go_simp
 rfl
end Go.Proofs.Ythjondinjebalaa.Print
