/- Plain laws of the document's numbers: as whole numbers again,their sums,differences. -/
import Derived.Test.YthjondinjebalaaX0
import Derived.Test.YthjondinjebalaaX5
import Derived.Test.YthjondinjebalaaX6
import Derived.Test.YthjondinjebalaaX7
import Derived.Test.YthjondinjebalaaX8
import Derived.Test.YthjondinjebalaaAx8
import Derived.Test.YthjondinjebalaaMoney
import Derived.Test.YthjondinjebalaaX1
import Derived.Test.YthjondinjebalaaRef01A
namespace Go.Proofs.Ythjondinjebalaa.Print
open Go.RowKit Go.Proofs.YthjondinjebalaaW.PrintWords Go.Proofs.YthjondinjebalaaW.PrintLast Go.Proofs.YthjondinjebalaaW.PrintMore
attribute [local go_sem] max2_int min2_int max_two min_two max_three min_three max_four min_four   -- for this text's walks alone
set_option linter.unusedVariables false
set_option linter.unusedSimpArgs false
end Go.Proofs.Ythjondinjebalaa.Print
namespace Go.Proofs.Ythjondinjebalaa.Print
open Go.RowKit Go.Proofs.YthjondinjebalaaW.PrintWords Go.Proofs.YthjondinjebalaaW.PrintLast Go.Proofs.YthjondinjebalaaW.PrintMore
set_option linter.unusedVariables false
set_option linter.unusedSimpArgs false
theorem ref_may (a:Int):octroiref01_May.f a=some (mayB a):=by
 unfold octroiref01_May.f mayB
 by_cases h:a≥-4611686018427387904
 · rw [if_pos h,decide_eq_true (p:=-4611686018427387904≤a) h];rfl
 · rw [if_neg h,decide_eq_false (p:=-4611686018427387904≤a) h];rfl
theorem turn_ev (n:Bool) (l:List Int) (v:Int) (h:IsNum n l v):∃ m,octroiref01_Turn.f n l=some (m,l)∧IsNum m l (-v):=by
 have hv:=h.val
 have h0:=dval_0 h.dig
 unfold octroiref01_Turn.f
 by_cases e:(l.length:Int)=0
 · have e':l=[]:=List.length_eq_zero_iff.1 (by omega)
   subst e'
   refine ⟨n,by rw [if_pos e],h.dig,h.nz,h.pos,?_⟩
   rw [hv];simp [dval]
 · have hne:l≠[]:=by intro e';subst e';simp at e
   have hp:=dval_ge h.dig h.nz hne
   have hq:=pow_pos' (l.length - 1)
   refine ⟨!n,by rw [if_neg e],h.dig,h.nz,fun _=>by omega,?_⟩
   rw [hv];cases n<;>simp
end Go.Proofs.Ythjondinjebalaa.Print
