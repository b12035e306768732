/- How arguments that came in read,kind by kind: structs by value,slices of structs;for the rows of laws. -/
import Derived.ProofKit
import Derived.OpenShut
import Derived.ShutString
import Derived.Deep.Slices
import Derived.SizedLaws
import Derived.ChangeArms
import Derived.ChangeSlices
import Derived.Test.YthjondinjebalaaX0
import Derived.Test.YthjondinjebalaaShI
import Derived.Test.YthjondinjebalaaAx4
import Derived.Test.YthjondinjebalaaAx8
namespace Go.Proofs.Ythjondinjebalaa.Print
open Go.ChangeShapes Go.WideShapes Go.ChangeAt Go.RowKit Go.Deep Go.Proofs.YthjondinjebalaaW.PrintWords Go.Proofs.YthjondinjebalaaW.PrintLast Go.Proofs.YthjondinjebalaaW.PrintMore
set_option linter.unusedVariables false
set_option linter.unusedSimpArgs false
def Opens (P:Program) (t:TypeId) {α:Type} (d:Kd α) (G:α→Prop):Prop :=
 P.cellsOf t=d.sz∧∀ (H:Type) (enc:TypeId × Value→H) (w:World) (base:Nat) (spare:Nat→Bool) (held:Bool) (n:Nat) (cs:List Value) (y:DataW H × List MemPlace),DataW.trod enc P w base spare held n t cs=some y→∃ a,d.K w a cs∧G a
theorem opens_int {P:Program} {t:TypeId} {k:IntKind} (ht:P.underlying t=some (.int k)) (hc:P.cellsOf t=1):Opens P t (Kd.int k) (fun a=>(Lit.int k a).wf=true):=by
 refine ⟨hc,?_⟩
 intro H enc w base spare held n cs y h
 obtain ⟨a,e0,rfl,wa⟩:=DataW.trod_int ht h
 exact ⟨a,e0,wa⟩
theorem opens_row {P:Program} {t e:TypeId} {α:Type} {d:Kd α} {G:α→Prop} (ht:P.underlying t=some (.slice e)) (h:Opens P e d G) {H:Type} {enc:TypeId × Value→H} {w:World} {base:Nat} {spare:Nat→Bool} {held:Bool} {a:Option Addr} {len cap:Nat} {D:DataW H} {ps:List MemPlace}
 (hd:DataW.Trod enc P w base spare held t (.slice a len cap) D ps):∃ l:List α,l.length=len∧Kd.C d w a l.length l∧l.length≤cap∧l.length≤maxLen∧∀ x∈l,G x:=by
 obtain ⟨fuel,hf⟩:=hd
 rcases open_slice ht hf with ⟨hcs,_⟩|⟨ad,len',cap',m,n,DD,Pl,hcs,hb,hl,hm,hmm,hx,he⟩
 · simp [Value.cells] at hcs
   obtain ⟨rfl,rfl,rfl⟩:=hcs
   exact ⟨[],rfl,⟨rfl,by simp,fun h0=>absurd h0 (by simp)⟩,by simp,by simp,by simp⟩
 · simp [Value.cells] at hcs
   obtain ⟨rfl,rfl,rfl⟩:=hcs
   have hle:len≤m:=by rw [hmm];split<;>omega
   have key:∀ k,k≤len→∃ l:List α,l.length=k∧(∀ x∈l,G x)∧∀ (j:Nat) (p:α),l[j]? = some p→∃ c,c.length=d.sz∧d.K w p c∧∀ (i:Nat) (u:Value),c[i]? = some u→w.cell? (ad.add (j * d.sz+i))=some u:=by
    intro k
    induction k with
    | zero=>intro _;exact ⟨[],rfl,by simp,by simp⟩
    | succ k ih =>
     intro hk
     obtain ⟨l,l1,l2,l3⟩:=ih (by omega)
     obtain ⟨cs',hcs',htr⟩:=he k (by omega)
     obtain ⟨x,kx,gx⟩:=h.2 _ _ _ _ _ _ _ _ _ htr
     obtain ⟨_,hlen,hcell⟩:=World.cells?_some hcs'
     rw [h.1] at hlen hcell
     refine ⟨l ++ [x],by simp [l1],?_,?_⟩
     · intro z hz
       rcases List.mem_append.1 hz with hz|hz
       · exact l2 z hz
       · rw [List.mem_singleton.1 hz];exact gx
     · intro j p hp
       by_cases hj:j<k
       · rw [List.getElem?_append_left (by omega)] at hp
         exact l3 j p hp
       · have hjk:j=k:=by
          have:=(List.getElem?_eq_some_iff.1 hp).1
          rw [List.length_append,l1] at this
          simp at this
          omega
         subst hjk
         rw [List.getElem?_append_right (by omega),l1,Nat.sub_self] at hp
         simp at hp
         subst hp
         refine ⟨cs',hlen,kx,fun i u hu=>?_⟩
         have hi:i<d.sz:=by
          have:=(List.getElem?_eq_some_iff.1 hu).1
          omega
         have:=hcell i hi
         rw [Addr.add_add] at this
         rw [this,hu]
   obtain ⟨l,l1,l2,l3⟩:=key len (Nat.le_refl _)
   have hmx:len≤maxLen:=Nat.le_trans hl hm
   refine ⟨l,l1,⟨rfl,by rw [l1];unfold maxLen at hmx;exact hmx,fun _=>⟨ad,rfl,l3⟩⟩,by omega,by omega,l2⟩
theorem sized_row {H:Type} {enc:TypeId × Value→H} {P:Program} {W:World} {base:Nat} {spare:Nat→Bool} {held:Bool} {t e:TypeId} {a:Option Addr} {len cap:Nat} {d:DataW H} {ps:List MemPlace} {ts:List TypeId} {ds:List (DataW H)} {j:Nat}
 (hsz:(DataW.weightsEach P ts ds).all (·≤reachBytes)=true) (ht:ts[j]? = some t) (hd:ds[j]? = some d) (hu:P.underlying t=some (.slice e)) {B:Nat} (hB:P.bytesOf e=B)
 (h:DataW.Trod enc P W base spare held t (.slice a len cap) d ps):len * B≤140737488351232:=by
 obtain ⟨fuel,hf⟩:=h
 rcases open_slice hu hf with ⟨hcs,_⟩|⟨ad,len',cap',m,n,DD,Pl,hcs,hb,hl,hm,hmm,hx,he⟩
 · simp [Value.cells] at hcs
   obtain ⟨rfl,rfl,rfl⟩:=hcs
   simp
 · simp [Value.cells] at hcs
   obtain ⟨rfl,rfl,rfl⟩:=hcs
   obtain ⟨hx,_⟩:=Prod.mk.inj hx
   subst hx
   have z:=sized_slice hsz ht hd hu
   rw [hB] at z
   refine Nat.le_trans (Nat.mul_le_mul_right _ ?_) z
   simp
end Go.Proofs.Ythjondinjebalaa.Print
