/- Code in pieces: operations told by hand beside the evaluator's;a heap's thing seen another way. -/
import Derived.Test.YtlfkfajodnkkhaaAx21
import Derived.Maps.RangeRun
namespace Go.Proofs.Ytlfkfajodnkkhaa.Ax
open Go Go.RowKit
set_option linter.unusedVariables false
set_option linter.unusedSimpArgs false
section
variable {P:Program} {C:FuncId→Option Con} {cn:Nat→St→Option St} {E:Oper→(Operand→Option SV)→Nat→Rd Out} {n:Nat}
def Kn (S:List Nat) (p:Nat) (e:Ex) (σ:St):Option St:=match e with
 | .normal=>gcSt S p σ
 | _=>none
theorem chunk {B:Nat→Prop} {w0:Base} {F:Nat} (hm:P.follows .mixedOrders=true) (hE:Sound E P B w0 n) (hc:CnOk cn B w0 n) {c:Code} {S:List Nat} {p:Nat} (hp:w0.pin≤p) {σ σ':St} (h:ev E n cn F c σ (Kn S p)=some σ')
 {Q:Exit→Act→World→Prop} {ρ:Rho} {a:Act} {w:World} (hw:Wf w0.pin σ) (hR:R B w0 n σ ρ a w) (hQ:∀ ρ' a' w',Wf w0.pin σ'→R B w0 n σ' ρ' a' w'→Q .normal a' w'):c.wp P Q a w:=by
 refine wp_mono (ev_sound hm hE hc c σ _ _ h ρ a w hw hR) ?_
 rintro e' a' w' ⟨e,s,ρ',rfl,hk,hw',hR'⟩
 cases e with
 | normal =>
  obtain ⟨h1,h2⟩:=gcSt_ok (B:=B) (n:=n) hp hk
  obtain ⟨ρ2,hR2⟩:=h2 _ _ _ hR'
  exact hQ ρ2 a' w' h1 hR2
 | exit id=>cases hk
 | ret=>cases hk
noncomputable def cdec (p:Prop):Bool:=@decide p (Classical.propDecidable p)
theorem cdec_true {p:Prop} : cdec p=true↔p:=@decide_eq_true_iff p (Classical.propDecidable p)
end
end Go.Proofs.Ytlfkfajodnkkhaa.Ax
