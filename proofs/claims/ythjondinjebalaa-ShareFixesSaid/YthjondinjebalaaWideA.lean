/- The walks of money.May and of wide's small functions,by the abstract machine. -/
import Derived.Test.YthjondinjebalaaProg
import Derived.Test.YthjondinjebalaaAx14
namespace Go.Proofs.Ythjondinjebalaa.Ax
open Go Go.RowKit
set_option linter.unusedVariables false
set_option linter.unusedSimpArgs false
theorem mixed:Try.prog.follows .mixedOrders=true:=by kernel_rfl
def cn0:Nat→St→Option St:=fun _ σ=>some σ
theorem cn0_ok (B':Nat→Prop) (w:Base) (n:Nat):CnOk cn0 B' w n:=fun k σ σ' h=>by cases h;exact ⟨fun h=>h,fun ρ a w hR=>⟨ρ,hR⟩⟩
def C0:FuncId→Option Con:=fun _=>none
theorem C0_ok:∀ B' g φ,C0 g=some φ→ConOk Try.prog B' g φ:=fun _ _ _ h=>by cases h
def mayB (a:Int):Bool:=decide (-4611686018427387904≤a) && decide (a≤4611686018427387904)
def cMay:Con:=fun args _=>match args with
 | [.v (.int .i64 a)]=>.ret ⟨.v (.bool (mayB a)),[]⟩
 | _=>.fail
theorem may_tree (a:Int):evFn Try.prog C0 cn0 4 Try.f16 [.v (.int .i64 a)] [] 0 K1 =
 sel (decide (-4611686018427387904≤a)) (some (.v (.bool (decide (a≤4611686018427387904))))) (some (.v (.bool false))):=by kernel_rfl
theorem cMay_ok:∀ B,ConOk Try.prog B 16 cMay:=con_pure mixed Try.func16 (by kernel_rfl) rfl C0_ok (fun B' w=>cn0_ok B' w _) (by
 intro args lo h out ids hr
 unfold cMay at hr
 split at hr
 · rename_i a
   cases hr
   refine ⟨rfl,rfl,?_⟩
   rw [may_tree]
   unfold mayB
   cases decide (-4611686018427387904≤a)<;>rfl
 · cases hr)
end Go.Proofs.Ythjondinjebalaa.Ax
