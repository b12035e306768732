/- The walks of money.May and of wide's small functions,by the abstract machine. -/
import Derived.Test.YtlfkfajodnkkhaaProg
import Derived.Test.YtlfkfajodnkkhaaAx14
namespace Go.Proofs.Ytlfkfajodnkkhaa.Ax
open Go Go.RowKit
set_option linter.unusedVariables false
set_option linter.unusedSimpArgs false
theorem mixed:Try.prog.follows .mixedOrders=true:=by kernel_rfl
def cn0:Nat→St→Option St:=fun _ σ=>some σ
theorem cn0_ok (B':Nat→Prop) (w:Base) (n:Nat):CnOk cn0 B' w n:=fun k σ σ' h=>by cases h;exact ⟨fun h=>h,fun ρ a w hR=>⟨ρ,hR⟩⟩
def C0:FuncId→Option Con:=fun _=>none
theorem C0_ok:∀ B' g φ,C0 g=some φ→ConOk Try.prog B' g φ:=fun _ _ _ h=>by cases h
def mayB (a:Int):Bool:=decide (-4611686018427387904≤a) && decide (a≤4611686018427387904)
def cMay:Con:=fun args _=>match args with
 | [.v (.int .i64 a)]=>.ret ⟨.v (.bool (mayB a)),[]⟩
 | _=>.fail
theorem may_tree (a:Int):evFn Try.prog C0 cn0 4 Try.f35 [.v (.int .i64 a)] [] 0 K1 =
 sel (decide (-4611686018427387904≤a)) (some (.v (.bool (decide (a≤4611686018427387904))))) (some (.v (.bool false))):=by kernel_rfl
theorem cMay_ok:∀ B,ConOk Try.prog B 35 cMay:=con_pure mixed Try.func35 (by kernel_rfl) rfl C0_ok (fun B' w=>cn0_ok B' w _) (by
 intro args lo h out ids hr
 unfold cMay at hr
 split at hr
 · rename_i a
   cases hr
   refine ⟨rfl,rfl,?_⟩
   rw [may_tree]
   unfold mayB
   cases decide (-4611686018427387904≤a)<;>rfl
 · cases hr)
def rightV (a b c:Int):Bool:=mayB a && (mayB b && (mayB c && decide (1≤c)))
def cRight:Con:=fun args _=>match args with
 | [.slc id 1 0 3 (some 3)]=>.obj id fun o=>match o with
  | .cells 3 [.v (.int .i64 a),.v (.int .i64 b),.v (.int .i64 c)]=>.ret ⟨.v (.bool (rightV a b c)),[]⟩
  | _=>.fail
 | _=>.fail
def CMay:FuncId→Option Con
 | 35=>some cMay
 | _=>none
theorem CMay_ok:∀ B' g φ,CMay g=some φ→ConOk Try.prog B' g φ:=by
 intro B' g φ h
 unfold CMay at h
 split at h
 · cases h;exact cMay_ok B'
 · cases h
theorem right_tree (a b c:Int):evFn Try.prog CMay cn0 4 Try.f81 [.slc 0 1 0 3 (some 3)] [(0,.ro 3 [.v (.int .i64 a),.v (.int .i64 b),.v (.int .i64 c)])] 1 K1 =
 sel (!mayB a) (some (.v (.bool false))) (sel (!mayB b) (some (.v (.bool false))) (sel (!mayB c) (some (.v (.bool false))) (some (.v (.bool (decide (1≤c))))))):=by kernel_rfl
theorem cRight_ok:∀ B,ConOk Try.prog B 81 cRight:=by
 intro B args ρ h w lo out ids hr hrh hfree hargs up
 unfold cRight at hr
 split at hr
 · rename_i id
   obtain ⟨o,ids',hl,hr⟩:=obj_run hr
   split at hr
   · rename_i a b c
     cases hr
     have ht:evFn Try.prog CMay cn0 4 Try.f81 [.slc 0 1 0 3 (some 3)] [(0,.ro 3 [.v (.int .i64 a),.v (.int .i64 b),.v (.int .i64 c)])] 1 K1=some (.v (.bool (rightV a b c))):=by
      rw [right_tree]
      unfold rightV
      cases mayB a<;>cases mayB b<;>cases mayB c<;>rfl
     exact con_reads (B:=B) mixed Try.func81 (by kernel_rfl) rfl CMay_ok (fun B' w=>cn0_ok B' w _) [.slc 0 1 0 3 (some 3)] (fun _=>id) _ 1 _ K1_spec ht ρ h w lo hrh up rfl
      (fun i oc hi=>by
       simp only [look] at hi
       by_cases e:0=i
       · subst e;cases hi;exact ⟨by decide,rfl⟩
       · rw [beq_no e] at hi;cases hi)
      (fun i oc hi=>by
       simp only [look] at hi
       by_cases e:0=i
       · subst e;cases hi;exact ⟨_,hl,.inl rfl⟩
       · rw [beq_no e] at hi;cases hi)
   · cases hr
 · cases hr
def sizeV (a:Int):Int:=bif decide (a<0) then IntKind.u64.wrap (0 - IntKind.u64.wrap a) else IntKind.u64.wrap a
def cSize:Con:=fun args _=>match args with
 | [.v (.int .i64 a)]=>.ret ⟨.v (.int .u64 (sizeV a)),[]⟩
 | _=>.fail
theorem size_tree (a:Int):evFn Try.prog C0 cn0 4 Try.f84 [.v (.int .i64 a)] [] 0 K1 =
 sel (decide (a<0)) (some (.v (.int .u64 (IntKind.u64.wrap (0 - IntKind.u64.wrap a))))) (some (.v (.int .u64 (IntKind.u64.wrap a)))):=by kernel_rfl
theorem cSize_ok:∀ B,ConOk Try.prog B 84 cSize:=con_pure mixed Try.func84 (by kernel_rfl) rfl C0_ok (fun B' w=>cn0_ok B' w _) (by
 intro args lo h out ids hr
 unfold cSize at hr
 split at hr
 · rename_i a
   cases hr
   refine ⟨rfl,rfl,?_⟩
   rw [size_tree]
   unfold sizeV
   cases decide (a<0)<;>rfl
 · cases hr)
def toldV (a:Int) (b:Bool):Int × Int :=
 bif decide (4611686018427387904<a) then (0,3) else
  bif b then (bif a == 4611686018427387904 then (0,3) else (IntKind.i64.wrap (IntKind.u64.wrap (a+1)),0)) else (IntKind.i64.wrap a,0)
def cTold:Con:=fun args _=>match args with
 | [.v (.int .u64 a),.v (.bool b)]=>.ret ⟨.tup [.v (.int .i64 (toldV a b).1),.v (.int .i64 (toldV a b).2)],[]⟩
 | _=>.fail
theorem told_tree (a:Int) (b:Bool):evFn Try.prog C0 cn0 4 Try.f86 [.v (.int .u64 a),.v (.bool b)] [] 0 K1 =
 sel (decide (4611686018427387904<a)) (some (.tup [.v (.int .i64 0),.v (.int .i64 3)]))
  (sel b (sel (a == 4611686018427387904) (some (.tup [.v (.int .i64 0),.v (.int .i64 3)]))
   (sel b (some (.tup [.v (.int .i64 (IntKind.i64.wrap (IntKind.u64.wrap (a+1)))),.v (.int .i64 0)])) (some (.tup [.v (.int .i64 (IntKind.i64.wrap a)),.v (.int .i64 0)]))))
   (sel b (some (.tup [.v (.int .i64 (IntKind.i64.wrap (IntKind.u64.wrap (a+1)))),.v (.int .i64 0)])) (some (.tup [.v (.int .i64 (IntKind.i64.wrap a)),.v (.int .i64 0)])))):=by kernel_rfl
theorem cTold_ok:∀ B,ConOk Try.prog B 86 cTold:=con_pure mixed Try.func86 (by kernel_rfl) rfl C0_ok (fun B' w=>cn0_ok B' w _) (by
 intro args lo h out ids hr
 unfold cTold at hr
 split at hr
 · rename_i a b
   cases hr
   refine ⟨rfl,rfl,?_⟩
   rw [told_tree]
   unfold toldV
   cases decide (4611686018427387904<a)<;>cases b<;>cases (a == 4611686018427387904)<;>rfl
 · cases hr)
end Go.Proofs.Ytlfkfajodnkkhaa.Ax
