/- Invoice: the chapter's example;InvoiceWhole: its tree. -/
import Derived.Test.YtlfkfajodnkkhaaIvX
namespace Go.Proofs.Ytlfkfajodnkkhaa.Iv
open Go Go.RowKit Go.Proofs.YtlfkfajodnkkhaaW.PrintWords Go.Proofs.Ytlfkfajodnkkhaa.Ax Go.Proofs.Ytlfkfajodnkkhaa.Sh
set_option linter.unusedVariables false
set_option linter.unusedSimpArgs false
def exI:List Item:=[(33,33,false,1000),(33,33,false,1000),(33,33,false,1000)]
theorem ex_of:invOf exI=some ([(33,4),(33,3),(33,3)],0,()):=by kernel_rfl
def liveV (l:List Item):OP:=bif decide (l=exI) then some ([(33,4),(33,3),(33,3)],0,()) else none
theorem live_sub {l:List Item} {y:List PartT × Int × Unit} (h:liveV l=some y):invOf l=some y:=by
 unfold liveV at h
 obtain ⟨h1,h2⟩:=cond_some h
 rw [of_decide_eq_true h1,ex_of];exact h2
noncomputable def cOfL:Con:=conX [qItems] [qParts,qInt] fun x=>liveV x.1
theorem cOfL_ok (B):ConOk Try.prog B 7 cOfL :=
 toldP (lin:=[qItems]) (lout:=[qParts,qInt]) CFn_ok Try.func7 (by kernel_rfl) (by kernel_rfl) (fun x=>liveV x.1) (fun x y h=>by
  obtain ⟨l,u⟩:=x
  exact of_run l y (live_sub h)) (by decide) B
noncomputable def CLv:FuncId→Option Con
 | 7=>some cOfL
 | _=>none
theorem CLv_ok:∀ B' g φ,CLv g=some φ→ConOk Try.prog B' g φ:=by
 intro B' g φ h
 unfold CLv at h
 split at h
 · cases h;exact cOfL_ok B'
 · cases h
theorem lives_tree:evX Try.prog CLv Sh.cn0 40 Try.f6 [] [qBool] ()=oT:=by kernel_rfl
noncomputable def cLives:Con:=conX [] [qBool] fun _=>oT
theorem cLives_ok (B):ConOk Try.prog B 6 cLives :=
 toldP (lin:=[]) (lout:=[qBool]) CLv_ok Try.func6 (by kernel_rfl) (by kernel_rfl) (fun _=>oT) (fun x y h=>lives_tree.trans h) (by decide) B
end Go.Proofs.Ytlfkfajodnkkhaa.Iv
