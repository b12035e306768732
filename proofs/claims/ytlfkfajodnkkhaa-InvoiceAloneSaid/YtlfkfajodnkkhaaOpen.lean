/- How arguments that came in read,kind by kind: structs by value,slices of structs;for the rows of laws. -/
import Derived.ProofKit
import Derived.OpenShut
import Derived.ShutString
import Derived.Deep.Slices
import Derived.SizedLaws
import Derived.ChangeArms
import Derived.ChangeSlices
import Derived.Test.YtlfkfajodnkkhaaX0
import Derived.Test.YtlfkfajodnkkhaaShI
import Derived.Test.YtlfkfajodnkkhaaAx4
import Derived.Test.YtlfkfajodnkkhaaAx8
namespace Go.Proofs.Ytlfkfajodnkkhaa.Print
open Go.ChangeShapes Go.WideShapes Go.ChangeAt Go.RowKit Go.Deep Go.Proofs.YtlfkfajodnkkhaaW.PrintWords Go.Proofs.YtlfkfajodnkkhaaW.PrintLast Go.Proofs.YtlfkfajodnkkhaaW.PrintMore
set_option linter.unusedVariables false
set_option linter.unusedSimpArgs false
def Opens (P:Program) (t:TypeId) {α:Type} (d:Kd α) (G:α→Prop):Prop :=
 P.cellsOf t=d.sz∧∀ (H:Type) (enc:TypeId × Value→H) (w:World) (base:Nat) (spare:Nat→Bool) (held:Bool) (n:Nat) (cs:List Value) (y:DataW H × List MemPlace),DataW.trod enc P w base spare held n t cs=some y→∃ a,d.K w a cs∧G a
theorem opens_int {P:Program} {t:TypeId} {k:IntKind} (ht:P.underlying t=some (.int k)) (hc:P.cellsOf t=1):Opens P t (Kd.int k) (fun a=>(Lit.int k a).wf=true):=by
 refine ⟨hc,?_⟩
 intro H enc w base spare held n cs y h
 obtain ⟨a,e0,rfl,wa⟩:=DataW.trod_int ht h
 exact ⟨a,e0,wa⟩
theorem opens_bool {P:Program} {t:TypeId} (ht:P.underlying t=some .bool) (hc:P.cellsOf t=1):Opens P t Kd.bool (fun _=>True):=by
 refine ⟨hc,?_⟩
 intro H enc w base spare held n cs y h
 obtain ⟨a,e0,rfl⟩:=DataW.trod_bool ht h
 exact ⟨a,e0,trivial⟩
def OpF (P:Program) (fs:List Field) (off:Nat) {α:Type} (d:Kd α) (G:α→Prop):Prop :=
 ∀ (H:Type) (enc:TypeId × Value→H) (w:World) (base:Nat) (spare:Nat→Bool) (held:Bool) (n:Nat) (cs:List Value),off+d.sz=cs.length→
  (∀ f∈fs,∃ y,DataW.trod enc P w base spare held n f.type ((cs.drop f.offset).take (P.cellsOf f.type))=some y)→∃ a,d.K w a (cs.drop off)∧G a
theorem opF_one {P:Program} {f:Field} {off:Nat} {α:Type} {d:Kd α} {G:α→Prop} (ho:f.offset=off) (h:Opens P f.type d G):OpF P [f] off d G:=by
 intro H enc w base spare held n cs hl hf
 obtain ⟨y,hy⟩:=hf f (by simp)
 rw [h.1,ho,List.take_of_length_le (by rw [List.length_drop];omega)] at hy
 exact h.2 _ _ _ _ _ _ _ _ _ hy
theorem opF_cons {P:Program} {f:Field} {fs:List Field} {off m:Nat} {α β:Type} {d:Kd α} {e:Kd β} {G:α→Prop} {G':β→Prop} (ho:f.offset=off) (h:Opens P f.type d G) (hm:off+d.sz=m) (hr:OpF P fs m e G'):OpF P (f :: fs) off (Kd.pair d e) (fun p=>G p.1∧G' p.2):=by
 intro H enc w base spare held n cs hl hf
 obtain ⟨y,hy⟩:=hf f (by simp)
 have hsz:(Kd.pair d e).sz=d.sz+e.sz:=rfl
 rw [h.1,ho] at hy
 obtain ⟨a,ka,ga⟩:=h.2 _ _ _ _ _ _ _ _ _ hy
 obtain ⟨b,kb,gb⟩:=hr H enc w base spare held n cs (by omega) (fun g hg=>hf g (by simp [hg]))
 refine ⟨(a,b),⟨_,_,?_,ka,kb⟩,ga,gb⟩
 rw [← hm,← List.drop_drop,List.take_append_drop]
theorem opens_struct {P:Program} {t:TypeId} {fs:Array Field} {α:Type} {d:Kd α} {G:α→Prop} (ht:P.underlying t=some (.struct fs)) (hc:P.cellsOf t=d.sz) (h:OpF P fs.toList 0 d G):Opens P t d G:=by
 refine ⟨hc,?_⟩
 intro H enc w base spare held n cs y hy
 obtain ⟨xs,m,_,rfl,hl,hlen,hf⟩:=DataW.trod_struct ht hy
 have:=h H enc w base spare held m cs (by omega) (fun f hfm=>by
  obtain ⟨i,hi⟩:=List.getElem?_of_mem hfm
  have h1:=hf i f (by rw [← Array.getElem?_toList];exact hi)
  have hil:i<xs.length:=by
   have:=(List.getElem?_eq_some_iff.1 hi).1
   rw [Array.length_toList] at this
   omega
  exact ⟨xs[i],by rw [h1,List.getElem?_eq_getElem hil]⟩)
 simpa using this
theorem opens_iso {P:Program} {t:TypeId} {α β:Type} {d:Kd α} {G:α→Prop} {f:β→α} (g:α→β) (hg:∀ a,f (g a)=a) (h:Opens P t d G):Opens P t (Kd.iso d f) (fun b=>G (f b)):=by
 refine ⟨h.1,?_⟩
 intro H enc w base spare held n cs y hy
 obtain ⟨a,ka,ga⟩:=h.2 _ _ _ _ _ _ _ _ _ hy
 exact ⟨g a,by show d.K w (f (g a)) cs;rw [hg];exact ka,by show G (f (g a));rw [hg];exact ga⟩
theorem opens_row {P:Program} {t e:TypeId} {α:Type} {d:Kd α} {G:α→Prop} (ht:P.underlying t=some (.slice e)) (h:Opens P e d G) {H:Type} {enc:TypeId × Value→H} {w:World} {base:Nat} {spare:Nat→Bool} {held:Bool} {a:Option Addr} {len cap:Nat} {D:DataW H} {ps:List MemPlace}
 (hd:DataW.Trod enc P w base spare held t (.slice a len cap) D ps):∃ l:List α,l.length=len∧Kd.C d w a l.length l∧l.length≤cap∧l.length≤maxLen∧∀ x∈l,G x:=by
 obtain ⟨fuel,hf⟩:=hd
 rcases open_slice ht hf with ⟨hcs,_⟩|⟨ad,len',cap',m,n,DD,Pl,hcs,hb,hl,hm,hmm,hx,he⟩
 · simp [Value.cells] at hcs
   obtain ⟨rfl,rfl,rfl⟩:=hcs
   exact ⟨[],rfl,⟨rfl,by simp,fun h0=>absurd h0 (by simp)⟩,by simp,by simp,by simp⟩
 · simp [Value.cells] at hcs
   obtain ⟨rfl,rfl,rfl⟩:=hcs
   have hle:len≤m:=by rw [hmm];split<;>omega
   have key:∀ k,k≤len→∃ l:List α,l.length=k∧(∀ x∈l,G x)∧∀ (j:Nat) (p:α),l[j]? = some p→∃ c,c.length=d.sz∧d.K w p c∧∀ (i:Nat) (u:Value),c[i]? = some u→w.cell? (ad.add (j * d.sz+i))=some u:=by
    intro k
    induction k with
    | zero=>intro _;exact ⟨[],rfl,by simp,by simp⟩
    | succ k ih =>
     intro hk
     obtain ⟨l,l1,l2,l3⟩:=ih (by omega)
     obtain ⟨cs',hcs',htr⟩:=he k (by omega)
     obtain ⟨x,kx,gx⟩:=h.2 _ _ _ _ _ _ _ _ _ htr
     obtain ⟨_,hlen,hcell⟩:=World.cells?_some hcs'
     rw [h.1] at hlen hcell
     refine ⟨l ++ [x],by simp [l1],?_,?_⟩
     · intro z hz
       rcases List.mem_append.1 hz with hz|hz
       · exact l2 z hz
       · rw [List.mem_singleton.1 hz];exact gx
     · intro j p hp
       by_cases hj:j<k
       · rw [List.getElem?_append_left (by omega)] at hp
         exact l3 j p hp
       · have hjk:j=k:=by
          have:=(List.getElem?_eq_some_iff.1 hp).1
          rw [List.length_append,l1] at this
          simp at this
          omega
         subst hjk
         rw [List.getElem?_append_right (by omega),l1,Nat.sub_self] at hp
         simp at hp
         subst hp
         refine ⟨cs',hlen,kx,fun i u hu=>?_⟩
         have hi:i<d.sz:=by
          have:=(List.getElem?_eq_some_iff.1 hu).1
          omega
         have:=hcell i hi
         rw [Addr.add_add] at this
         rw [this,hu]
   obtain ⟨l,l1,l2,l3⟩:=key len (Nat.le_refl _)
   have hmx:len≤maxLen:=Nat.le_trans hl hm
   refine ⟨l,l1,⟨rfl,by rw [l1];unfold maxLen at hmx;exact hmx,fun _=>⟨ad,rfl,l3⟩⟩,by omega,by omega,l2⟩
theorem sized_row {H:Type} {enc:TypeId × Value→H} {P:Program} {W:World} {base:Nat} {spare:Nat→Bool} {held:Bool} {t e:TypeId} {a:Option Addr} {len cap:Nat} {d:DataW H} {ps:List MemPlace} {ts:List TypeId} {ds:List (DataW H)} {j:Nat}
 (hsz:(DataW.weightsEach P ts ds).all (·≤reachBytes)=true) (ht:ts[j]? = some t) (hd:ds[j]? = some d) (hu:P.underlying t=some (.slice e)) {B:Nat} (hB:P.bytesOf e=B)
 (h:DataW.Trod enc P W base spare held t (.slice a len cap) d ps):len * B≤140737488351232:=by
 obtain ⟨fuel,hf⟩:=h
 rcases open_slice hu hf with ⟨hcs,_⟩|⟨ad,len',cap',m,n,DD,Pl,hcs,hb,hl,hm,hmm,hx,he⟩
 · simp [Value.cells] at hcs
   obtain ⟨rfl,rfl,rfl⟩:=hcs
   simp
 · simp [Value.cells] at hcs
   obtain ⟨rfl,rfl,rfl⟩:=hcs
   obtain ⟨hx,_⟩:=Prod.mk.inj hx
   subst hx
   have z:=sized_slice hsz ht hd hu
   rw [hB] at z
   refine Nat.le_trans (Nat.mul_le_mul_right _ ?_) z
   simp
end Go.Proofs.Ytlfkfajodnkkhaa.Print
