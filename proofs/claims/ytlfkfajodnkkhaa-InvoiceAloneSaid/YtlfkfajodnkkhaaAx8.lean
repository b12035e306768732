/- Merged texts: Ax5,Ax6,Ax7,Ax8. -/
import Derived.Test.YtlfkfajodnkkhaaAx4
import Derived.Laws.Tables
import Derived.Laws.AppendOwn
import Derived.Deep.AppendSrc
import Derived.Laws.Slices
import Derived.Great.BuildSlice
import Derived.Laws.IdiomRangeMap
namespace Go.Proofs.Ytlfkfajodnkkhaa.Ax
open Go Go.RowKit
set_option linter.unusedVariables false
set_option linter.unusedSimpArgs false
inductive Ex where
 | normal
 | exit (id:Nat)
 | ret
def Ex.to:Ex→Exit
 | .normal=>.normal
 | .exit id=>.exit id
 | .ret=>.ret
section
variable (E:Oper→(Operand→Option SV)→Nat→Rd Out) (n:Nat)
def dstOk (n:Nat):Option Nat→Bool
 | none=>true
 | some d=>Nat.blt d n
def St.setB (σ:St) (t:Option Nat) (b:Bool):St:=match t with
 | none=>σ
 | some t=>{ σ with sl:=put σ.sl t (.v (.bool b)) }
def tmpOf:Operand→Option Nat
 | .tmp t=>some t
 | _=>none
def evOps {β:Type} (ops:Array Oper) (n0:Nat):Nat→List Oper→St→List Rec→(St→List Rec→Option β)→Option β
 | _,[],σ,rs,K=>K σ rs
 | i,o :: l,σ,rs,K =>
  cond (dstOk n o.dst)
   (match o.guard with
   | none=>(E o (evo σ) (n0+wide * i)).runK σ.hp [] fun out ids=>forceSt (σ.app o.dst out) fun σ'=>evOps ops n0 (i+1) l σ' (⟨i,out,ids.reverse⟩ :: rs) K
   | some (g,want)=>match ysv ops σ g with
    | some b=>match want with
     | true=>sel b (forceSt (σ.setB (dstOf ops g) true) fun σ=>(E o (evo σ) (n0+wide * i)).runK σ.hp [] fun out ids=>forceSt (σ.app o.dst out) fun σ'=>evOps ops n0 (i+1) l σ' (⟨i,out,ids.reverse⟩ :: rs) K)
      (forceSt ((σ.setB (dstOf ops g) false).app o.dst ⟨.v undef,[]⟩) fun σ'=>evOps ops n0 (i+1) l σ' (⟨i,⟨.v undef,[]⟩,[]⟩ :: rs) K)
     | false=>sel b (forceSt ((σ.setB (dstOf ops g) true).app o.dst ⟨.v undef,[]⟩) fun σ'=>evOps ops n0 (i+1) l σ' (⟨i,⟨.v undef,[]⟩,[]⟩ :: rs) K)
      (forceSt (σ.setB (dstOf ops g) false) fun σ=>(E o (evo σ) (n0+wide * i)).runK σ.hp [] fun out ids=>forceSt (σ.app o.dst out) fun σ'=>evOps ops n0 (i+1) l σ' (⟨i,out,ids.reverse⟩ :: rs) K)
    | none=>cond (yun ops σ g) (forceSt (σ.app o.dst ⟨.v undef,[]⟩) fun σ'=>evOps ops n0 (i+1) l σ' (⟨i,⟨.v undef,[]⟩,[]⟩ :: rs) K) none)
   none
def regOk (ops:Array Oper) (n0:Nat) (draw:Bool) (rs:List Rec):Bool :=
 allPairs ops n0 (bif draw then masks ops.toList [] else []) draw rs && (!draw || edgesOk 0 ops.toList) && rs.all (fun r=>r.out.lt (n0+wide * ops.size))
def evReg {β:Type} (ops:Array Oper) (draw:Bool) (σ:St) (K:St→Option β):Option β :=
 match σ with
 | ⟨sl,hp,nx⟩=>evOps E n ops nx 0 ops.toList ⟨sl,hp,nx⟩ [] fun σ' rs=>sel (regOk ops nx draw rs.reverse) (forceN (nx+wide * ops.size) fun nx'=>match σ' with
  | ⟨sl',hp',_⟩=>K ⟨sl',hp',nx'⟩) none
def iter {α β:Type} : Nat→((α→Option β)→α→Option β)→α→Option β
 | 0,_,_=>none
 | k+1,F,x=>F (iter k F) x
def key:Code→Nat
 | .region id _ _=>id
 | .seq a b=>match key a with
  | 0=>key b
  | k=>k
 | .cond _ a _=>key a
 | .block _ c=>key c
 | .loop c=>key c
 | .scope c=>key c
 | _=>0
variable (cn:Nat→St→Option St) (F:Nat)
def ev {β:Type} : Code→St→(Ex→St→Option β)→Option β
 | .skip,σ,K=>K .normal σ
 | .region _ ops draw,σ,K=>evReg E n ops draw σ (K .normal)
 | .seq a b,σ,K=>ev a σ fun e σ'=>match e with
  | .normal=>ev b σ' K
  | .exit id=>K (.exit id) σ'
  | .ret=>K .ret σ'
 | .cond c x y,σ,K=>match evo σ c with
  | some (.v (.bool b))=>sel b (forceSt (σ.setB (tmpOf c) true) fun σ'=>ev x σ' K) (forceSt (σ.setB (tmpOf c) false) fun σ'=>ev y σ' K)
  | _=>none
 | .block id c,σ,K=>ev c σ fun e σ'=>match e with
  | .normal=>K .normal σ'
  | .exit j=>cond (Nat.beq j id) (K .normal σ') (K (.exit j) σ')
  | .ret=>K .ret σ'
 | .loop c,σ,K=>match cn (key c) σ with
  | none=>none
  | some σ1=>iter F (fun rec σ1=>ev c σ1 fun e σ'=>match e with
   | .normal=>match cn (key c) σ' with
    | none=>none
    | some σ2=>rec σ2
   | .exit id=>K (.exit id) σ'
   | .ret=>K .ret σ') σ1
 | .label _,σ,K=>K .normal σ
 | .exit id,σ,K=>K (.exit id) σ
 | .ret,σ,K=>K .ret σ
 | _,_,_=>none
variable {E n cn F}
theorem setB_eqv {σ:St} {t:Option Nat} {b:Bool} (h:∀ k,t=some k→look σ.sl k=some (.v (.bool b))):Eqv (σ.setB t b) σ:=by
 cases t with
 | none=>exact Eqv.refl σ
 | some k =>
  refine ⟨fun j=>?_,fun _=>rfl⟩
  show look (put σ.sl k (.v (.bool b))) j=look σ.sl j
  rw [look_put]
  split
  · rename_i e;subst e;exact (h k rfl).symm
  · rfl
theorem ysv_look {ops:Array Oper} {σ:St} {g:Nat} {b:Bool} (h:ysv ops σ g=some b):∀ k,dstOf ops g=some k→look σ.sl k=some (.v (.bool b)):=by
 intro k hk
 unfold dstOf at hk
 unfold ysv at h
 rw [hk] at h
 simp only at h
 split at h
 · rename_i b' hb;cases h;exact hb
 · cases h
theorem evOps_runs {β:Type} (EL:∀ (o:Oper) (ev ev':Operand→Option SV) (fr:Nat),(∀ x∈o.op.operands,ev x=ev' x)→E o ev fr=E o ev' fr) {ops:Array Oper} {n0:Nat} : ∀ (l:List Oper) (i:Nat) (σ:St) (rs:List Rec) (K:St→List Rec→Option β) (b:β),(∀ j o,l[j]? = some o→ops[i+j]? = some o)→
 evOps E n ops n0 i l σ rs K=some b→∃ σ' L,K σ' (L.reverse ++ rs)=some b∧Runs E ops n0 L σ σ'∧L.map (·.i)=List.range' i l.length∧(∀ r∈L,dstOk n (dstOf ops r.i)=true)
 | [],i,σ,rs,K,b,_,h=>⟨σ,[],h,.nil (Eqv.refl σ),rfl,by simp⟩
 | o :: l,i,σ,rs,K,b,ho,h=>by
  have hi:ops[i]? = some o:=by simpa using ho 0 o rfl
  have hd:dstOf ops i=o.dst:=by simp [dstOf,hi]
  have hl:∀ j o',l[j]? = some o'→ops[i+1+j]? = some o':=fun j o' hj=>by
   have:=ho (j+1) o' (by simpa using hj)
   rwa [show i+1+j=i+(j+1) by omega]
  simp only [evOps,forceSt_eq] at h
  cases hk:dstOk n o.dst with
  | false=>rw [hk] at h;cases h
  | true =>
   rw [hk] at h
   simp only [cond_true] at h
   have run:∀ (τ:St) (hτ:Eqv τ σ) out ids,stepR E ops n0 i o τ=some (out,ids)→evOps E n ops n0 (i+1) l (τ.app o.dst out) (⟨i,out,ids⟩ :: rs) K=some b→
    ∃ σ' L,K σ' (L.reverse ++ rs)=some b∧Runs E ops n0 L σ σ'∧L.map (·.i)=List.range' i (o :: l).length∧(∀ r∈L,dstOk n (dstOf ops r.i)=true):=by
    intro τ hτ out ids hs he
    obtain ⟨σ',L,h1,h2,h3,h4⟩:=evOps_runs EL l (i+1) _ _ K b hl he
    refine ⟨σ',⟨i,out,ids⟩ :: L,by simpa using h1,.cons ⟨o,hi,step_congr E ops n0 EL hs (fun t _=>(hτ.sl t).symm) (fun j _=>(hτ.hp j).symm)⟩ (by show Runs E ops n0 L (σ.app (dstOf ops i) out) σ';rw [hd];exact Runs.eqv E ops n0 EL h2 (hτ.symm.app _ _)),?_,?_⟩
    · simp only [List.map_cons,h3,List.length_cons,List.range'_succ]
    · intro r hr
      rcases List.mem_cons.1 hr with hr|hr
      · subst hr;show dstOk n (dstOf ops i)=true;rw [hd];exact hk
      · exact h4 r hr
   have exec:∀ (τ:St) (hτ:Eqv τ σ),(∀ out ids,(E o (evo τ) (n0+wide * i)).run τ.hp=some (out,ids)→stepR E ops n0 i o τ=some (out,ids))→
    ((E o (evo τ) (n0+wide * i)).runK τ.hp [] fun out ids=>evOps E n ops n0 (i+1) l (τ.app o.dst out) (⟨i,out,ids.reverse⟩ :: rs) K)=some b→
    ∃ σ' L,K σ' (L.reverse ++ rs)=some b∧Runs E ops n0 L σ σ'∧L.map (·.i)=List.range' i (o :: l).length∧(∀ r∈L,dstOk n (dstOf ops r.i)=true):=by
    intro τ hτ hr he
    obtain ⟨out,ids,h1,h2⟩:=Rd.runK_eq _ _ _ _ _ he
    rw [List.append_nil,List.reverse_reverse] at h2
    exact run τ hτ out ids (hr _ _ h1) h2
   cases hg:o.guard with
   | none =>
    rw [hg] at h
    exact exec σ (Eqv.refl σ) (fun out ids hr=>by unfold stepR;rw [hg];exact hr) h
   | some gw =>
    obtain ⟨g,want⟩:=gw
    rw [hg] at h
    simp only at h
    cases hy:ysv ops σ g with
    | none =>
     rw [hy] at h
     simp only at h
     cases hu:yun ops σ g with
     | false=>rw [hu] at h;cases h
     | true =>
      rw [hu] at h
      exact run σ (Eqv.refl σ) _ _ (by unfold stepR;rw [hg];simp only [hy,hu,cond_true]) h
    | some c =>
     rw [hy] at h
     simp only at h
     have hτ:Eqv (σ.setB (dstOf ops g) c) σ:=setB_eqv (ysv_look hy)
     have hyτ:ysv ops (σ.setB (dstOf ops g) c) g=some c:=by rw [ysv_congr ops (fun t _=>hτ.sl t),hy]
     have yes:c=want→∀ out ids,(E o (evo (σ.setB (dstOf ops g) c)) (n0+wide * i)).run (σ.setB (dstOf ops g) c).hp=some (out,ids)→stepR E ops n0 i o (σ.setB (dstOf ops g) c)=some (out,ids):=by
      intro e out ids hr
      unfold stepR
      rw [hg]
      simp only [hyτ]
      rw [if_pos e]
      exact hr
     have no:c≠want→stepR E ops n0 i o (σ.setB (dstOf ops g) c)=some (⟨.v undef,[]⟩,[]):=by
      intro e
      unfold stepR
      rw [hg]
      simp only [hyτ]
      rw [if_neg e]
     cases want<;>cases c
     · exact exec _ hτ (yes rfl) h
     · exact run _ hτ _ _ (no (by decide)) h
     · exact run _ hτ _ _ (no (by decide)) h
     · exact exec _ hτ (yes rfl) h
theorem seq_order {ops:Array Oper} {n0:Nat} {P:Program} {B:Nat→Prop} {w0:Base} {Q:Exit→Act→World→Prop} {ms:List Nat} {d:Bool} {σE:St}
 (hS:OpS E ops n0 P B w0 n) (hQ:∀ ρ a w,R B w0 n σE ρ a w→Q .normal a w) :
 ∀ (L:List Rec) (σ:St) (ρ:Rho) (a:Act) (w:World),Runs E ops n0 L σ σE→R B w0 n σ ρ a w→
  (∀ r∈L,Fresh (loOf n0 r.i) (loOf n0 r.i+wide) σ)→allPairs ops n0 ms d L=true→wpOps P ops Q (L.map (·.i)) a w
 | [],σ,ρ,a,w,hrun,hR,_,_=>by
  cases hrun with
  | nil h=>exact hQ ρ a w (hR.eqv h)
 | r :: L,σ,ρ,a,w,hrun,hR,hf,hp=>by
  cases hrun with
  | cons h t =>
   simp only [allPairs,Bool.and_eq_true,List.all_eq_true] at hp
   rw [List.map_cons,wpOps_cons]
   refine hS r σ ρ a w _ Q h hR (hf r (by simp)) fun ρ' a' w' hR'=>?_
   refine seq_order hS hQ L _ ρ' a' w' t hR' (fun x hx=>(hf x (by simp [hx])).app ?_) hp.2
   have:=hp.1 x hx
   simp only [pairOk,Bool.and_eq_true] at this
   exact this.1
theorem edgesOk_spec:∀ (l:List Oper) (i:Nat),edgesOk i l=true→∀ j o,l[j]? = some o→∀ e∈edges o,e<i+j
 | [],_,_,_,_,h=>by simp at h
 | o :: l,i,h,j,o',hj=>by
  simp only [edgesOk,Bool.and_eq_true,List.all_eq_true] at h
  cases j with
  | zero =>
   simp at hj
   subst hj
   exact fun e he=>blt_lt (h.1 e he)
  | succ j =>
   intro e he
   have:=edgesOk_spec l (i+1) h.2 j o' (by simpa using hj) e he
   omega
theorem Runs.wf {ops:Array Oper} {n0 N:Nat} : ∀ {L:List Rec} {σ σ':St},Runs E ops n0 L σ σ'→(∀ r∈L,r.out.lt N=true)→(∀ t s,look σ.sl t=some s→s.lt N=true)→(∀ i o,look σ.hp i=some o→i<N∧o.lt N=true)→
 (∀ t s,look σ'.sl t=some s→s.lt N=true)∧(∀ i o,look σ'.hp i=some o→i<N∧o.lt N=true)
 | [],σ,σ',h,_,h1,h2=>by
  cases h with
  | nil e=>exact ⟨fun t s hs=>h1 t s (by rw [e.sl];exact hs),fun i o ho=>h2 i o (by rw [e.hp];exact ho)⟩
 | r :: L,σ,σ',h,hl,h1,h2=>by
  cases h with
  | cons h t =>
   have hr:=hl r (by simp)
   simp only [Out.lt,Bool.and_eq_true] at hr
   refine Runs.wf t (fun x hx=>hl x (by simp [hx])) (fun t s hs=>?_) (fun i o ho=>?_)
   · unfold St.after at hs
     rw [look_app_sl] at hs
     split at hs
     · cases hs;exact hr.1
     · exact h1 t s hs
   · rcases look_puts_of _ _ _ _ ho with h'|h'
     · exact updLt_mem hr.2 _ _ h'
     · exact h2 i o h'
structure Sound (E:Oper→(Operand→Option SV)→Nat→Rd Out) (P:Program) (B:Nat→Prop) (w0:Base) (n:Nat):Prop where
 loc:∀ (o:Oper) (ev ev':Operand→Option SV) (fr:Nat),(∀ x∈o.op.operands,ev x=ev' x)→E o ev fr=E o ev' fr
 op:∀ (o:Oper) (σ:St) (ρ:Rho) (a:Act) (w:World) (lo:Nat) (out:Out) (ids:List Nat),(E o (evo σ) lo).run σ.hp=some (out,ids)→R B w0 n σ ρ a w→Fresh lo (lo+wide) σ→
  Gives P o a w fun v w'=>∃ ρ',Made B ρ σ.hp w lo (lo+wide) out ρ' v w'
theorem R.app {B:Nat→Prop} {w0:Base} {w w':World} {σ:St} {ρ ρ':Rho} {a:Act} {lo hi:Nat} {out:Out} {v:Value} (h:R B w0 n σ ρ a w) (hf:Fresh lo hi σ) (m:Made B ρ σ.hp w lo hi out ρ' v w') (dst:Option Nat) (hd:dstOk n dst=true) (hpin:w0.pin≤lo) :
 R B w0 n (σ.app dst out) ρ' (a.put dst v) w':=by
 have old:∀ t s,look σ.sl t=some s→den ρ' s=den ρ s:=fun t s hs=>den_free m.rho s (hf.sl t s hs)
 refine ⟨?_,?_,?_,m.hr,h.up,h.ks.trans m.ks,fun i hi=>(m.rho i (.inl (Nat.lt_of_lt_of_le hi hpin))).trans (h.pn i hi)⟩
 · cases dst with
   | none=>exact h.sz
   | some d=>simp only [Act.put,Array.size_setIfInBounds];exact h.sz
 · cases dst<;>exact h.df
 · intro t s hs
   rw [look_app_sl] at hs
   split at hs
   · rename_i e
     subst e
     cases hs
     have hlt:t<n:=blt_lt hd
     have hlt':t<a.tmps.size:=by rw [h.sz];exact hlt
     refine ⟨hlt,?_⟩
     rw [← m.val]
     simp [Act.put,Array.getD,hlt']
   · rename_i e
     obtain ⟨h1,h2⟩:=h.sl t s hs
     refine ⟨h1,?_⟩
     rw [old t s hs,← h2]
     cases dst with
     | none=>rfl
     | some d =>
      have hne:d≠t:=fun x=>e (by rw [x])
      simp [Act.put,Array.getElem?_setIfInBounds_ne hne]
theorem opS_of {P:Program} {B:Nat→Prop} {w0:Base} {ops:Array Oper} {n0:Nat} (hE:Sound E P B w0 n) (hd:∀ i,dstOk n (dstOf ops i)=true) (hn0:w0.pin≤n0):OpS E ops n0 P B w0 n:=by
 intro r σ ρ a w K Q hs hR hf hK
 obtain ⟨o,ho,hst⟩:=hs
 have hdst:dstOf ops r.i=o.dst:=by simp [dstOf,ho]
 have hdo:=hd r.i
 unfold wpOp
 rw [ho]
 simp only
 have exec:∀ (hrun:(E o (evo σ) (n0+wide * r.i)).run σ.hp=some (r.out,r.ids)),o.wp P a w K Q:=by
  intro hrun
  refine hE.op o σ ρ a w _ _ _ hrun hR hf K Q fun v w' ⟨ρ',m⟩=>?_
  refine hK ρ' _ w' ?_
  have:=hR.app hf m o.dst (by rw [← hdst];exact hdo) (Nat.le_trans hn0 (Nat.le_add_right _ _))
  unfold St.after
  rw [hdst]
  exact this
 unfold stepR at hst
 cases hg:o.guard with
 | none =>
  rw [hg] at hst
  rw [if_pos (by simp [Region.wanted,hg])]
  exact .inl (exec hst)
 | some gw =>
  obtain ⟨g,want⟩:=gw
  rw [hg] at hst
  simp only at hst
  have skip:Region.wanted o (yielded ops a.tmps)=false→(r.out=⟨.v undef,[]⟩)→K (a.put o.dst undef) w:=by
   intro _ hout
   refine hK ρ _ w ?_
   have m:Made B ρ σ.hp w (loOf n0 r.i) (loOf n0 r.i+wide) r.out ρ undef w:=by
    rw [hout]
    exact ⟨rfl,fun _ _=>rfl,hR.hr,Keeps.refl _ _⟩
   have:=hR.app hf m o.dst (by rw [← hdst];exact hdo) (Nat.le_trans hn0 (Nat.le_add_right _ _))
   unfold St.after
   rw [hdst]
   exact this
  cases hy:ysv ops σ g with
  | none =>
   rw [hy] at hst
   simp only at hst
   cases hu:yun ops σ g with
   | false=>rw [hu] at hst;cases hst
   | true =>
    rw [hu] at hst
    simp only [cond_true,Option.some.injEq,Prod.mk.injEq] at hst
    have hyl:yielded ops a.tmps g=none:=by
     unfold yun at hu
     unfold yielded
     cases ht:(ops[g]?).bind (·.dst) with
     | none=>rfl
     | some t =>
      rw [ht] at hu
      simp only at hu
      split at hu
      · rename_i vs hb
        obtain ⟨h1,h2⟩:=hR.sl t _ hb
        have hlt:t<a.tmps.size:=by rw [hR.sz];exact h1
        simp only [Array.getD,hlt,dif_pos,den] at h2
        show (match a.tmps[t]? with|some (.bool b)=>some b|_=>none)=none
        rw [Array.getElem?_eq_getElem hlt]
        have h3:a.tmps[t] = .tuple vs:=h2
        rw [h3]
      · cases hu
    have hwf:Region.wanted o (yielded ops a.tmps)=false:=by simp [Region.wanted,hg,hyl]
    rw [if_neg (by rw [hwf];decide)]
    exact skip hwf hst.1.symm
  | some b =>
   rw [hy] at hst
   simp only at hst
   have hyl:yielded ops a.tmps g=some b:=by
    unfold ysv at hy
    unfold yielded
    cases ht:(ops[g]?).bind (·.dst) with
    | none=>rw [ht] at hy;cases hy
    | some t =>
     rw [ht] at hy
     simp only at hy
     split at hy
     · rename_i b' hb
       cases hy
       obtain ⟨h1,h2⟩:=hR.sl t _ hb
       have hlt:t<a.tmps.size:=by rw [hR.sz];exact h1
       simp only [Array.getD,hlt,dif_pos,den] at h2
       show (match a.tmps[t]? with|some (.bool b)=>some b|_=>none)=some b
       rw [Array.getElem?_eq_getElem hlt]
       have h3:a.tmps[t] = .bool b:=h2
       rw [h3]
     · cases hy
   split at hst
   · rename_i e
     subst e
     rw [if_pos (by simp [Region.wanted,hg,hyl])]
     exact .inl (exec hst)
   · rename_i e
     rw [if_neg (by simp [Region.wanted,hg,hyl,e])]
     simp only [Option.some.injEq,Prod.mk.injEq] at hst
     refine hK ρ _ w ?_
     have m:Made B ρ σ.hp w (loOf n0 r.i) (loOf n0 r.i+wide) r.out ρ undef w:=by
      rw [← hst.1]
      exact ⟨rfl,fun _ _=>rfl,hR.hr,Keeps.refl _ _⟩
     have:=hR.app hf m o.dst (by rw [← hdst];exact hdo) (Nat.le_trans hn0 (Nat.le_add_right _ _))
     unfold St.after
     rw [hdst]
     exact this
def Ends {β:Type} (B:Nat→Prop) (w0:Base) (n:Nat) (K:Ex→St→Option β) (b:β):Exit→Act→World→Prop :=
 fun e' a' w'=>∃ e σ' ρ',e'=e.to∧K e σ'=some b∧Wf w0.pin σ'∧R B w0 n σ' ρ' a' w'
theorem evReg_sound {β:Type} {P:Program} {B:Nat→Prop} {w0:Base} (hm:P.follows .mixedOrders=true) (hE:Sound E P B w0 n) (id:Nat) (ops:Array Oper) (draw:Bool) (σ:St) (K:Ex→St→Option β) (b:β)
 (h:evReg E n ops draw σ (K .normal)=some b) (ρ:Rho) (a:Act) (w:World) (hw:Wf w0.pin σ) (hR:R B w0 n σ ρ a w):(Code.region id ops draw).wp P (Ends B w0 n K b) a w:=by
 obtain ⟨sl0,hp0,nx0⟩:=σ
 have h:=(show evOps E n ops nx0 0 ops.toList ⟨sl0,hp0,nx0⟩ [] (fun σ' rs=>cond (regOk ops nx0 draw rs.reverse) (K .normal { σ' with nx:=nx0+wide * ops.size }) none)=some b from by
  unfold evReg at h
  simp only [forceN_eq,sel] at h
  exact h)
 generalize hσ:(⟨sl0,hp0,nx0⟩:St)=σ at *
 have hnx:σ.nx=nx0:=by rw [← hσ]
 subst hnx
 obtain ⟨σ',L,h1,h2,h3,h4⟩:=evOps_runs hE.loc ops.toList 0 σ [] _ b (fun j o hj=>by simpa using hj) h
 rw [List.append_nil,List.reverse_reverse] at h1
 cases hk:regOk ops σ.nx draw L with
 | false=>rw [hk] at h1;cases h1
 | true =>
  rw [hk] at h1
  simp only [cond_true] at h1
  unfold regOk at hk
  simp only [Bool.and_eq_true,List.all_eq_true] at hk
  obtain ⟨⟨hp,hed⟩,hlt⟩:=hk
  have hidx:∀ j,j<ops.size↔∃ r∈L,r.i=j:=by
   intro j
   have:j∈L.map (·.i)↔j<ops.size:=by rw [h3,List.mem_range'];simp
   rw [← this,List.mem_map]
  have hdst:∀ i,dstOk n (dstOf ops i)=true:=by
   intro i
   by_cases hi:i<ops.size
   · obtain ⟨r,hr,hri⟩:=(hidx i).1 hi
     rw [← hri]
     exact h4 r hr
   · simp [dstOf,Array.getElem?_eq_none (Nat.le_of_not_lt hi),dstOk]
  have hS:=opS_of (ops:=ops) (n0:=σ.nx) hE hdst hw.px
  have hfr:∀ r∈L,Fresh (loOf σ.nx r.i) (loOf σ.nx r.i+wide) σ:=fun r _=>hw.fresh (Nat.le_add_right _ _)
  have hN:σ.nx≤σ.nx+wide * ops.size:=Nat.le_add_right _ _
  have hwf:Wf w0.pin { σ' with nx:=σ.nx+wide * ops.size }:=by
   obtain ⟨k1,k2⟩:=Runs.wf h2 hlt (fun t s hs=>SV.lt_mono hN s (hw.sl t s hs)) (fun i o ho=>⟨Nat.lt_of_lt_of_le (hw.hp i o ho).1 hN,AObj.lt_mono hN o (hw.hp i o ho).2⟩)
   exact ⟨k1,k2,Nat.le_trans hw.px hN⟩
  have hQ:∀ ρ a w,R B w0 n σ' ρ a w→Ends B w0 n K b .normal a w:=fun ρ' a' w' hR'=>⟨.normal,_,ρ',rfl,h1,hwf,hR'.eqv ⟨fun _=>rfl,fun _=>rfl⟩⟩
  cases draw with
  | false =>
   refine wp_region ?_
   have:=seq_order hS hQ L σ ρ a w h2 hR hfr hp
   rw [h3] at this
   rwa [List.range_eq_range',← Array.length_toList]
  | true =>
   refine wp_region_any hm ?_
   simp only [cond_true] at hp
   have hs:L.Pairwise (fun r s=>r.i<s.i):=by
    have:(L.map (·.i)).Pairwise (· < ·):=by rw [h3];exact List.pairwise_lt_range'
    exact List.pairwise_map.1 this
   refine any_order E ops σ.nx hE.loc hS hQ rfl (fun i o ho e he=>?_) ops.size _ L σ ρ a _ (by simp) ?_ h2 hR.drew hfr hp (fun j hj=>?_) (fun r hr=>(hidx r.i).2 ⟨r,hr,rfl⟩) hs ?_
   · have:=edgesOk_spec ops.toList 0 (by simpa using hed) i o (by simpa using ho) e he
     omega
   · have:(L.map (·.i)).length=ops.size:=by rw [h3];simp
     simpa using Nat.le_of_eq this
   · rw [← hidx j]
     simp [Array.getD,hj]
   · intro s o hso hd
     have hlt:=(Array.getElem?_eq_some_iff.1 hso).1
     have:=hd hlt
     simp [Array.getD,hlt] at this
theorem iter_sound {α β:Type} {Fn:(α→Option β)→α→Option β} {S:Nat→α→Prop} {b:β} (step:∀ k x,Fn (iter k Fn) x=some b→(∀ y,iter k Fn y=some b→S k y)→S (k+1) x):∀ k x,iter k Fn x=some b→S k x
 | 0,_,h=>by cases h
 | k+1,x,h=>step k x h (fun y hy=>iter_sound step k y hy)
def CnOk (cn:Nat→St→Option St) (B:Nat→Prop) (w0:Base) (n:Nat):Prop :=
 ∀ k σ σ',cn k σ=some σ'→(Wf w0.pin σ→Wf w0.pin σ')∧∀ ρ a w,R B w0 n σ ρ a w→∃ ρ',R B w0 n σ' ρ' a w
theorem ev_sound {β:Type} {P:Program} {B:Nat→Prop} {w0:Base} (hm:P.follows .mixedOrders=true) (hE:Sound E P B w0 n) (hc:CnOk cn B w0 n) :
 ∀ (c:Code) (σ:St) (K:Ex→St→Option β) (b:β),ev E n cn F c σ K=some b→∀ (ρ:Rho) (a:Act) (w:World),Wf w0.pin σ→R B w0 n σ ρ a w→c.wp P (Ends B w0 n K b) a w
 | .skip,σ,K,b,h,ρ,a,w,hw,hR=>wp_skip ⟨.normal,σ,ρ,rfl,h,hw,hR⟩
 | .region id ops draw,σ,K,b,h,ρ,a,w,hw,hR=>evReg_sound hm hE id ops draw σ K b h ρ a w hw hR
 | .seq x y,σ,K,b,h,ρ,a,w,hw,hR=>by
  simp only [ev] at h
  refine wp_seq (wp_mono (ev_sound hm hE hc x σ _ b h ρ a w hw hR) ?_)
  rintro e' a' w' ⟨e,σ',ρ',rfl,hk,hw',hR'⟩
  cases e with
  | normal=>exact ev_sound hm hE hc y σ' K b hk ρ' a' w' hw' hR'
  | exit id=>exact ⟨.exit id,σ',ρ',rfl,hk,hw',hR'⟩
  | ret=>exact ⟨.ret,σ',ρ',rfl,hk,hw',hR'⟩
 | .cond c x y,σ,K,b,h,ρ,a,w,hw,hR=>by
  simp only [ev,forceSt_eq] at h
  split at h
  · rename_i t ht
    have hev:a.eval c = .bool t:=by rw [hR.eval c _ ht];rfl
    have hτ:Eqv (σ.setB (tmpOf c) t) σ:=setB_eqv (fun k hk=>by
     cases c with
     | tmp j=>cases hk;exact ht
     | _=>cases hk)
    have hwτ:Wf w0.pin (σ.setB (tmpOf c) t):=by
     have hnx:(σ.setB (tmpOf c) t).nx=σ.nx:=by cases c<;>rfl
     exact ⟨fun j s hs=>by rw [hnx];exact hw.sl j s (by rw [← hτ.sl];exact hs),fun j s hs=>by rw [hnx];exact hw.hp j s (by rw [← hτ.hp];exact hs),by rw [hnx];exact hw.px⟩
    cases t with
    | true=>exact wp_cond_true hev (ev_sound hm hE hc x _ K b h ρ a w hwτ (hR.eqv hτ.symm))
    | false=>exact wp_cond_false hev (ev_sound hm hE hc y _ K b h ρ a w hwτ (hR.eqv hτ.symm))
  · cases h
 | .block id c,σ,K,b,h,ρ,a,w,hw,hR=>by
  simp only [ev] at h
  refine wp_block (wp_mono (ev_sound hm hE hc c σ _ b h ρ a w hw hR) ?_)
  rintro e' a' w' ⟨e,σ',ρ',rfl,hk,hw',hR'⟩
  cases e with
  | normal=>exact ⟨.normal,σ',ρ',rfl,hk,hw',hR'⟩
  | exit j =>
   simp only at hk
   show (if j=id then Ends B w0 n K b .normal a' w' else Ends B w0 n K b (.exit j) a' w')
   by_cases e:j=id
   · rw [if_pos e]
     subst e
     rw [Nat.beq_refl] at hk
     exact ⟨.normal,σ',ρ',rfl,hk,hw',hR'⟩
   · rw [if_neg e]
     rw [beq_no e] at hk
     exact ⟨.exit j,σ',ρ',rfl,hk,hw',hR'⟩
  | ret=>exact ⟨.ret,σ',ρ',rfl,hk,hw',hR'⟩
 | .loop c,σ,K,b,h,ρ,a,w,hw,hR=>by
  simp only [ev] at h
  refine wp_loop_rounds F ?_
  cases hcn:cn (key c) σ with
  | none=>rw [hcn] at h;cases h
  | some σ1 =>
   rw [hcn] at h
   obtain ⟨c1,c2⟩:=hc _ _ _ hcn
   obtain ⟨ρ1,hR1⟩:=c2 ρ a w hR
   refine iter_sound (S:=fun k σ=>∀ ρ a w,Wf w0.pin σ→R B w0 n σ ρ a w→Code.rounds P c (Ends B w0 n K b) k a w) ?_ F σ1 h ρ1 a w (c1 hw) hR1
   intro k σ0 hk ih ρ a w hw hR
   refine wp_mono (ev_sound hm hE hc c σ0 _ b hk ρ a w hw hR) ?_
   rintro e' a' w' ⟨e,σ',ρ',rfl,hk',hw',hR'⟩
   cases e with
   | normal =>
    simp only at hk'
    cases hcn':cn (key c) σ' with
    | none=>rw [hcn'] at hk';cases hk'
    | some σ2 =>
     rw [hcn'] at hk'
     obtain ⟨d1,d2⟩:=hc _ _ _ hcn'
     obtain ⟨ρ2,hR2⟩:=d2 ρ' a' w' hR'
     exact ih σ2 hk' ρ2 a' w' (d1 hw') hR2
   | exit id=>exact ⟨.exit id,σ',ρ',rfl,hk',hw',hR'⟩
   | ret=>exact ⟨.ret,σ',ρ',rfl,hk',hw',hR'⟩
 | .label l,σ,K,b,h,ρ,a,w,hw,hR=>wp_label ⟨.normal,σ,ρ,rfl,h,hw,hR⟩
 | .exit id,σ,K,b,h,ρ,a,w,hw,hR=>wp_exit ⟨.exit id,σ,ρ,rfl,h,hw,hR⟩
 | .ret,σ,K,b,h,ρ,a,w,hw,hR=>wp_ret ⟨.ret,σ,ρ,rfl,h,hw,hR⟩
 | .rangeFunc ..,σ,K,b,h,_,_,_,_,_=>by cases h
 | .scope _,σ,K,b,h,_,_,_,_,_=>by cases h
 | .goto _,σ,K,b,h,_,_,_,_,_=>by cases h
 | .refuse _,σ,K,b,h,_,_,_,_,_=>by cases h
end
end Go.Proofs.Ytlfkfajodnkkhaa.Ax
namespace Go.Proofs.Ytlfkfajodnkkhaa.Ax
open Go Go.RowKit
set_option linter.unusedVariables false
set_option linter.unusedSimpArgs false
theorem made_pure {B:Nat→Prop} {ρ:Rho} {h:Hp} {w:World} {lo hi:Nat} {s:SV} (hr:HR B ρ h w):Made B ρ h w lo hi ⟨s,[]⟩ ρ (den ρ s) w :=
 ⟨rfl,fun _ _=>rfl,hr,Keeps.refl _ _⟩
theorem HR.keep {B:Nat→Prop} {ρ:Rho} {h:Hp} {w w':World} (hr:HR B ρ h w) (hs:w.heap.size≤w'.heap.size)
 (hb:∀ i o,look h i=some o→o≠.dead→(ρ i).nil=false→w'.heap[(ρ i).blk]? = w.heap[(ρ i).blk]?):HR B ρ h w' :=
 ⟨fun i o ho=>by
  by_cases hd:o = .dead
  · subst hd;trivial
  · exact (hr.ok i _ ho).keep (fun _ _ _=>rfl) (hb i _ ho hd) hs,hr.inB,hr.arg,hr.inj⟩
theorem free_cells {lo hi:Nat} {o:AObj} (h:o.free lo hi=true):∀ ty c,o = .cells ty c∨o = .ro ty c→freeL lo hi c=true:=by
 intro ty c e
 rcases e with e|e<;>subst e<;>exact h
def HFree (lo hi:Nat) (h:Hp):Prop:=∀ i o,look h i=some o→(i<lo∨hi≤i)∧o.free lo hi=true
def setRho (ρ:Rho) (k:Nat) (L:Loc):Rho:=fun i=>if i=k then L else ρ i
theorem setRho_same (ρ:Rho) (k:Nat) (L:Loc):setRho ρ k L k=L:=if_pos rfl
theorem setRho_other (ρ:Rho) {k i:Nat} (L:Loc) (h:i≠k):setRho ρ k L i=ρ i:=if_neg h
theorem made_new {B:Nat→Prop} {ρ:Rho} {h:Hp} {w w':World} {lo hi:Nat} {s:SV} {o:AObj} {L:Loc} (hr:HR B ρ h w) (hf:HFree lo hi h) (hlo:lo<hi)
 (up:∀ b,w.heap.size≤b→B b) (hk:Keeps B w w') (hold:∀ b,b<w.heap.size→w'.heap[b]? = w.heap[b]?) (hown:o.own=true) (hL:L.nil=false→w.heap.size≤L.blk)
 (hok:OK (setRho ρ lo L) w' L o):Made B ρ h w lo hi ⟨s,[(lo,o)]⟩ (setRho ρ lo L) (den (setRho ρ lo L) s) w':=by
 have hne:∀ i x,look h i=some x→i≠lo:=fun i x hx e=>by have:=(hf i x hx).1;omega
 have hρ:∀ i,i<lo∨hi≤i→setRho ρ lo L i=ρ i:=fun i hi=>setRho_other _ _ (by omega)
 have hkeep:HR B ρ h w':=hr.keep hk.size fun i x hx hd hn=>hold _ ((hr.ok i x hx).lt hd hn)
 refine ⟨rfl,hρ,⟨?_,?_,?_,?_⟩,hk⟩
 · intro i x hx
   simp only [puts,look_put] at hx
   split at hx
   · rename_i e;subst e;cases hx;rw [setRho_same];exact hok
   · rw [setRho_other _ _ (hne i x hx)]
     exact (hkeep.ok i _ hx).keep (fun ty' c' e=>denL_free (lo:=lo) (hi:=hi) hρ c' (free_cells (hf i _ hx).2 ty' c' e)) (fun _=>rfl) (Nat.le_refl _)
 · intro i x hx ho hn
   simp only [puts,look_put] at hx
   split at hx
   · rename_i e;subst e;rw [setRho_same] at hn ⊢;exact up _ (hL hn)
   · rw [setRho_other _ _ (hne i x hx)] at hn ⊢;exact hr.inB i x hx ho hn
 · intro i x hx ho hn
   simp only [puts,look_put] at hx
   split at hx
   · cases hx;cases o<;>first|(cases hown;done)|(cases ho;done)
   · rw [setRho_other _ _ (hne i _ hx)] at hn ⊢;exact hr.arg i x hx ho hn
 · intro i j x y hx hy ho ho' hn hn' hij
   simp only [puts,look_put] at hx hy
   have old:∀ k z,look h k=some z→z.own=true→(ρ k).nil=false→(ρ k).blk<w.heap.size:=fun k z hz hzo hzn=>(hr.ok k z hz).lt (fun e=>by subst e;cases hzo) hzn
   split at hx
   · rename_i e
     subst e
     split at hy
     · rename_i e';exact absurd e' hij
     · rw [setRho_other _ _ (hne j y hy)] at hn' ⊢
       rw [setRho_same] at hn ⊢
       have h1:=old j y hy ho' hn'
       have h2:=hL hn
       omega
   · rw [setRho_other _ _ (hne i x hx)] at hn ⊢
     split at hy
     · rename_i e'
       subst e'
       rw [setRho_same] at hn' ⊢
       have h1:=old i x hx ho hn
       have h2:=hL hn'
       omega
     · rw [setRho_other _ _ (hne j y hy)] at hn' ⊢
       exact hr.inj i j x y hx hy ho ho' hn hn' hij
theorem Keeps.alloc {B:Nat→Prop} (w:World) (o:Obj) (up:∀ b,w.heap.size≤b→B b):Keeps B w (w.alloc o) :=
 ⟨rfl,rfl,rfl,(by show w.heap.size≤(w.heap.push o).size;simp),fun k hk=>Below.heap_alloc w o k (by
  rcases Nat.lt_or_ge k w.heap.size with h|h
  · exact h
  · exact absurd (up k h) hk)⟩
theorem made_cells {B:Nat→Prop} {ρ:Rho} {h:Hp} {w:World} {lo hi:Nat} {s:SV} {ty:TypeId} {c:List SV} (hr:HR B ρ h w) (hf:HFree lo hi h) (hlo:lo<hi)
 (up:∀ b,w.heap.size≤b→B b) (hc:freeL lo hi c=true) (n cap:Nat) :
 Made B ρ h w lo hi ⟨s,[(lo,.cells ty c)]⟩ (setRho ρ lo ⟨w.heap.size,0,n,cap,false,none⟩) (den (setRho ρ lo ⟨w.heap.size,0,n,cap,false,none⟩) s) (w.alloc (.cells (denL ρ c).toArray ty)):=by
 refine made_new hr hf hlo up (Keeps.alloc _ _ up) (fun b hb=>Below.heap_alloc _ _ _ hb) rfl (fun _=>Nat.le_refl _) ⟨rfl,rfl,?_⟩
 rw [denL_free (lo:=lo) (hi:=hi) (fun i hi=>setRho_other _ _ (by omega)) c hc]
 exact heap_alloc_new _ _
theorem made_set {B:Nat→Prop} {ρ:Rho} {h:Hp} {w w':World} {lo hi id:Nat} {s:SV} {o o':AObj} (hr:HR B ρ h w) (hlo:id<lo∨hi≤id) (ho:look h id=some o) (hown:o.own=true) (hown':o'.own=true) (hnil:(ρ id).nil=false)
 (hos:w'.os=w.os) (htape:w'.tape=w.tape) (hout:w'.output=w.output) (hsize:w'.heap.size=w.heap.size) (hold:∀ b,b≠(ρ id).blk→w'.heap[b]? = w.heap[b]?) (hok:OK ρ w' (ρ id) o') :
 Made B ρ h w lo hi ⟨s,[(id,o')]⟩ ρ (den ρ s) w':=by
 refine ⟨rfl,fun _ _=>rfl,⟨?_,?_,?_,?_⟩,⟨hos,htape,hout,by omega,fun k hk=>hold k fun e=>hk (e ▸ hr.inB id o ho hown hnil)⟩⟩
 · intro i x hx
   simp only [puts,look_put] at hx
   split at hx
   · rename_i e;subst e;cases hx;exact hok
   · rename_i e
     by_cases hd:x = .dead
     · subst hd;trivial
     · have key:(ρ i).nil=false→(ρ i).blk≠(ρ id).blk:=by
        intro hn
        by_cases hxo:x.own=true
        · exact hr.inj i id x o hx ho hxo hown hn hnil (fun e'=>e e'.symm)
        · have hxs:x.shared=true:=by cases x<;>first|rfl|(exact absurd rfl hd)|(exact absurd rfl hxo)
          exact fun e'=>hr.arg i x hx hxs hn (e' ▸ hr.inB id o ho hown hnil)
       exact (hr.ok i _ hx).keep (fun _ _ _=>rfl) (fun hn=>hold _ (key hn)) (by omega)
 · intro i x hx hxo hn
   simp only [puts,look_put] at hx
   split at hx
   · rename_i e;subst e;exact hr.inB _ o ho hown hn
   · exact hr.inB i x hx hxo hn
 · intro i x hx hxo hn
   simp only [puts,look_put] at hx
   split at hx
   · cases hx;cases o'<;>first|(cases hown';done)|(cases hxo;done)
   · exact hr.arg i x hx hxo hn
 · intro i j x y hx hy hxo hyo hn hn' hij
   simp only [puts,look_put] at hx hy
   split at hx
   · rename_i e
     subst e
     split at hy
     · rename_i e';exact absurd e' hij
     · exact hr.inj _ j o y ho hy hown hyo hn hn' hij
   · split at hy
     · rename_i e';subst e';exact hr.inj i _ x o hx ho hxo hown hn hn' hij
     · exact hr.inj i j x y hx hy hxo hyo hn hn' hij
def repl {α:Type} (c:List α) (o:Nat) (xs:List α):List α:=c.take o ++ xs ++ c.drop (o+xs.length)
theorem repl_length {α:Type} (c:List α) (o:Nat) (xs:List α) (h:o+xs.length≤c.length):(repl c o xs).length=c.length:=by
 simp [repl];omega
theorem set_repl {α:Type} (c:List α) (o:Nat) (x:α) (xs:List α) (h:o+(x :: xs).length≤c.length):repl (c.set o x) (o+1) xs=repl c o (x :: xs):=by
 simp only [List.length_cons] at h
 unfold repl
 have h1:(c.set o x).take (o+1)=c.take o ++ [x]:=by
  rw [List.take_set,List.take_succ_eq_append_getElem (by omega:o<c.length),List.set_append_right _ _ (by simp;omega)]
  simp [show min o c.length=o by omega]
 have h2:(c.set o x).drop (o+1+xs.length)=c.drop (o+1+xs.length):=by
  rw [List.drop_set_of_lt (by omega)]
 rw [h1,h2,List.length_cons,show o+(xs.length+1)=o+1+xs.length by omega]
 simp
theorem setRow_self' (w:World) (g:Nat) (cur:Array Value) (t:TypeId) (fr:Nat × Nat) (hg:w.heap[g]? = some (.cells cur t fr)):w.setRow g cur=w:=by
 unfold World.setRow
 cases w with
 | mk heap tape drawn os output =>
  congr 1
  apply Array.ext
  · simp
  · intro k h1 h2
    simp only [Array.getElem_modify]
    split
    · rename_i e
      subst e
      have:=(Array.getElem?_eq_some_iff.1 hg).2
      rw [this]
    · rfl
theorem run_storeCells_at {P:Program} (g o:Nat) (t:TypeId):∀ (vs:List Value) (i:Nat) (cur:List Value) (w:World),w.heap[g]? = some (.cells cur.toArray t (0,0))→o+i+vs.length≤cur.length→(∀ v∈vs,v.oneCell'=true)→
 (storeCells ⟨g,o,none⟩ vs i).run P w = .ok () (w.setRow g (repl cur (o+i) vs).toArray)
 | [],i,cur,w,hg,hl,_=>by
  have:repl cur (o+i) []=cur:=by simp [repl]
  rw [this,setRow_self' w g _ t _ hg]
  rfl
 | v :: r,i,cur,w,hg,hl,h1=>by
  simp only [List.length_cons] at hl
  have hadd:(⟨g,o,none⟩:Addr).add i=⟨g,o+i,none⟩:=by unfold Addr.add;split<;>simp_all
  have hc:w.cell? ⟨g,o+i,none⟩=some (cur[o+i]'(by omega)):=by
   rw [cell_of_row w g (o+i) _ t _ hg]
   simp [List.getElem?_eq_getElem (by omega:o+i<cur.length)]
  have hfr:w.frozen? ⟨g,o+i,none⟩=false:=by simp [World.frozen?,hg]
  have hst:(store ((⟨g,o,none⟩:Addr).add i) v).run P w = .ok () (w.setRow g (cur.set (o+i) v).toArray):=by
   rw [hadd,run_store P w _ v _ (h1 v (by simp)),hc]
   simp only [hfr]
   rw [setCell_eq_setRow w g (o+i) _ t _ v hg]
   simp
  have ih:=run_storeCells_at (P:=P) g o t r (i+1) (cur.set (o+i) v) (w.setRow g (cur.set (o+i) v).toArray) (setRow_heap w g _ _ t _ hg) (by simp;omega) (fun x hx=>h1 x (by simp [hx]))
  simp only [storeCells,Sem.run_bind,hst,Result.andThen_ok,ih,setRow_setRow]
  rw [show o+(i+1)=o+i+1 by omega,set_repl cur (o+i) v r (by simp;omega)]
theorem run_loadCells_at {P:Program} (w:World) (g o n:Nat) (t:TypeId) (fr:Nat × Nat) (cur:List Value) (hg:w.heap[g]? = some (.cells cur.toArray t fr)) (hl:o+n≤cur.length) :
 (loadCells ⟨g,o,none⟩ n).run P w = .ok ((cur.drop o).take n).toArray w:=by
 have h:=run_loadCells_list (P:=P) w ⟨g,o,none⟩ ((cur.drop o).take n) (fun j v hv=>by
  have hadd:(⟨g,o,none⟩:Addr).add j=⟨g,o+j,none⟩:=by unfold Addr.add;split<;>simp_all
  rw [hadd,cell_of_row w g (o+j) _ t _ hg]
  rw [List.getElem?_take] at hv
  split at hv
  · rw [List.getElem?_drop] at hv
    simpa using hv
  · cases hv)
 rwa [show ((cur.drop o).take n).length=n by simp;omega] at h
def aggT (P:Program) (t:TypeId):Option Bool:=(P.underlying t).map fun d=>match d with | .struct _ | .array _ _=>true|_=>false
theorem run_isAgg {P:Program} {t:TypeId} {b:Bool} (h:aggT P t=some b) (w:World):(isAgg t).run P w = .ok b w:=by
 unfold aggT at h
 cases hu:P.underlying t with
 | none=>rw [hu] at h;cases h
 | some d =>
  rw [hu] at h
  simp only [Option.map_some,Option.some.injEq] at h
  unfold isAgg
  rw [Sem.run_bind,run_underlying hu w]
  cases d<;>simp at h<;>subst h<;>rfl
def szT (P:Program) (t:TypeId):Option Nat:=(P.info? t).map (·.size)
theorem run_sizeOf' {P:Program} {t:TypeId} {n:Nat} (h:szT P t=some n) (w:World):(sizeOf t).run P w = .ok n w:=by
 unfold szT at h
 cases hi:P.info? t with
 | none=>rw [hi] at h;cases h
 | some i =>
  rw [hi] at h
  simp only [Option.map_some,Option.some.injEq] at h
  subst h
  simp [sizeOf,typeInfo,hi]
def part1 (c:List SV) (agg:Bool) (off size:Nat):Option SV :=
 match agg with
 | true=>cond (Nat.ble (off+size) c.length) (some (.agg ((c.drop off).take size))) none
 | false=>c[off]?
theorem denL_getElem? (ρ:Rho) (c:List SV) (i:Nat):(denL ρ c)[i]? = (c[i]?).map (den ρ):=by rw [denL_map];simp
theorem denL_length (ρ:Rho) (c:List SV):(denL ρ c).length=c.length:=by rw [denL_map];simp
theorem denL_part (ρ:Rho) (c:List SV) (o n:Nat):denL ρ ((c.drop o).take n)=((denL ρ c).drop o).take n:=by simp only [denL_map,List.map_take,List.map_drop]
theorem denL_repl (ρ:Rho) (c xs:List SV) (o:Nat):denL ρ (repl c o xs)=repl (denL ρ c) o (denL ρ xs):=by
 simp only [denL_map,repl,List.map_append,List.map_take,List.map_drop,List.length_map]
theorem part1_den {ρ:Rho} {c:List SV} {agg:Bool} {off size:Nat} {s:SV} (h:part1 c agg off size=some s) :
 (agg=true→off+size≤c.length∧den ρ s = .agg (((denL ρ c).drop off).take size).toArray)∧(agg=false→(denL ρ c)[off]? = some (den ρ s)):=by
 cases agg with
 | true =>
  refine ⟨fun _=>?_,(fun e=>by cases e)⟩
  simp only [part1] at h
  cases hb:Nat.ble (off+size) c.length with
  | false=>rw [hb] at h;cases h
  | true =>
   rw [hb] at h
   cases h
   exact ⟨Nat.le_of_ble_eq_true hb,by simp only [den];rw [denL_part]⟩
 | false =>
  refine ⟨(fun e=>by cases e),fun _=>?_⟩
  simp only [part1] at h
  rw [denL_getElem?,h]
  rfl
theorem run_loadVar_at {P:Program} {ρ:Rho} {w:World} {g o:Nat} {ty t:TypeId} {fr:Nat × Nat} {c:List SV} {agg:Bool} {size:Nat} {s:SV} (hg:w.heap[g]? = some (.cells (denL ρ c).toArray ty fr))
 (ha:aggT P t=some agg) (hs:szT P t=some size) (hp:part1 c agg o size=some s):(loadVar t ⟨g,o,none⟩).run P w = .ok (den ρ s) w:=by
 obtain ⟨h1,h2⟩:=part1_den (ρ:=ρ) hp
 unfold loadVar
 rw [Sem.run_bind,run_isAgg ha]
 cases agg with
 | true =>
  obtain ⟨h3,h4⟩:=h1 rfl
  simp only [Result.andThen_ok,if_true]
  rw [Sem.run_bind,run_sizeOf' hs]
  simp only [Result.andThen_ok]
  rw [Sem.run_bind,run_loadCells_at w g o size ty fr (denL ρ c) hg (by rw [denL_length];exact h3),h4]
  rfl
 | false =>
  have h3:=h2 rfl
  simp only [Result.andThen_ok,Bool.false_eq_true,if_false]
  rw [run_load,cell_of_row w g o _ ty fr hg]
  simp only [List.getElem?_toArray,h3]
end Go.Proofs.Ytlfkfajodnkkhaa.Ax
namespace Go.Proofs.Ytlfkfajodnkkhaa.Ax
open Go Go.RowKit
set_option linter.unusedVariables false
set_option linter.unusedSimpArgs false
def w1 {α:Type} (x:Option SV) (k:SV→Rd α):Rd α:=match x with
 | some s=>k s
 | none=>.fail
def evL (ev:Operand→Option SV):List Operand→Option (List SV)
 | []=>some []
 | x :: l=>match ev x with
  | none=>none
  | some s=>match evL ev l with
   | none=>none
   | some r=>some (s :: r)
def evParts (ev:Operand→Option SV):List (Nat × Operand)→Option (List (Nat × SV))
 | []=>some []
 | (i,x) :: l=>match ev x with
  | none=>none
  | some s=>match evParts ev l with
   | none=>none
   | some r=>some ((i,s) :: r)
def bin1 (P:Program) (op:BinOp) (t:TypeId) (x y:Value):Rd Value :=
 match x with
 | .int k a=>match y with
  | .int k' b=>match op with
   | .shl=>.br (decide (b<0)) .fail (.ret (.int k (k.wrap (a * 2 ^ (min b.toNat k.bits)))))
   | .shr=>.br (decide (b<0)) .fail (.ret (.int k (a.fdiv (2 ^ (min b.toNat k.bits)))))
   | op=>match decEq k k' with
    | .isFalse _=>.fail
    | .isTrue _=>match op with
     | .add=>.ret (.int k (k.wrap (a+b)))
     | .sub=>.ret (.int k (k.wrap (a - b)))
     | .mul=>.ret (.int k (k.wrap (a * b)))
     | .quo=>.br (decide (b=0)) .fail (.ret (.int k (k.wrap (a.tdiv b))))
     | .rem=>.br (decide (b=0)) .fail (.ret (.int k (a.tmod b)))
     | .and=>.ret (.int k (bits .and k a b))
     | .or=>.ret (.int k (bits .or k a b))
     | .xor=>.ret (.int k (bits .xor k a b))
     | .andNot=>.ret (.int k (bits .andNot k a b))
     | .eql=>.ret (.bool (a == b))
     | .neq=>.ret (.bool (a != b))
     | .lss=>.ret (.bool (decide (a<b)))
     | .leq=>.ret (.bool (decide (a≤b)))
     | .gtr=>.ret (.bool (decide (b<a)))
     | .geq=>.ret (.bool (decide (b≤a)))
     | _=>.fail
  | _=>.fail
 | .bool a=>match y with
  | .bool b=>match P.underlying t with
   | some .bool=>match op with
    | .eql=>.ret (.bool (a == b))
    | .neq=>.ret (.bool (!(a == b)))
    | _=>.fail
   | _=>.fail
  | _=>.fail
 | .string a=>match y with
  | .string b=>match op with
   | .eql=>.ret (.bool (a.toList == b.toList))
   | .neq=>.ret (.bool (!(a.toList == b.toList)))
   | .lss=>.ret (.bool (Op.bytesLess a.toList b.toList))
   | .gtr=>.ret (.bool (!(Op.bytesLess a.toList b.toList || a.toList == b.toList)))
   | .leq=>.ret (.bool (Op.bytesLess a.toList b.toList || a.toList == b.toList))
   | .geq=>.ret (.bool (!Op.bytesLess a.toList b.toList))
   | .add=>.br (decide (((a.size+b.size:Nat):Int)>IntKind.i64.max)) .fail (.ret (.string (a ++ b)))
   | _=>.fail
  | _=>.fail
 | _=>.fail
theorem bin1_sound {P:Program} {op:BinOp} {t:TypeId} {x y v:Value} {h:Hp} {ids:List Nat} (hr:(bin1 P op t x y).run h=some (v,ids)) (X Y:Operand) (w:World) :
 ((do eqGuard op t X Y x y;binOp op t x y:Sem Value)).run P w = .ok v w:=by
 unfold bin1 at hr
 cases x with
 | int k a =>
  cases y with
  | int k' b =>
   rw [eqGuard_at_int]
   simp only [Sem.run_bind,Sem.run_pure,Result.andThen_ok]
   by_cases hsh:op = .shl
   · subst hsh
     simp only [Rd.run] at hr
     split at hr
     · cases hr
     · rename_i hb
       cases hr
       have hb':¬ b<0:=by simpa using hb
       simp [binOp_shl,Op.shift,hb']
   by_cases hsr:op = .shr
   · subst hsr
     simp only [Rd.run] at hr
     split at hr
     · cases hr
     · rename_i hb
       cases hr
       have hb':¬ b<0:=by simpa using hb
       simp [binOp_shr,Op.shift,hb']
   by_cases hk:k=k'
   · subst hk
     have hd:decEq k k = .isTrue rfl:=by cases k<;>rfl
     cases op<;>simp only [hd,Rd.run,reduceCtorEq,not_true_eq_false,not_false_eq_true] at hr hsh hsr <;>
      first
       | (exact absurd rfl hsh)
       | (exact absurd rfl hsr)
       | (cases hr;simp [binOp_add,binOp_sub,binOp_mul,Op.intArith];done)
       | (cases hr;simp [binOp_and,binOp_or,binOp_xor,binOp_andNot,intBits_and,intBits_or,intBits_xor,intBits_andNot];done)
       | (cases hr;simp [binOp_eql,binOp_neq,binOp_lss,binOp_leq,binOp_gtr,binOp_geq];done)
       | (split at hr
          · cases hr
          · rename_i hb
            cases hr
            have hb':¬ b=0:=by simpa using hb
            simp [binOp_quo,binOp_rem,Op.intDiv,hb'])
   · exfalso
     have hd:∃ h,decEq k k' = .isFalse h:=by
      cases e:decEq k k' with
      | isTrue h=>exact absurd h hk
      | isFalse h=>exact ⟨h,rfl⟩
     obtain ⟨h',hd⟩:=hd
     cases op<;>simp only [hd,Rd.run,reduceCtorEq] at hr<;>first|(exact hsh rfl)|(exact hsr rfl)
  | _=>cases hr
 | bool a =>
  cases y with
  | bool b =>
   rw [eqGuard_at_bool]
   simp only [Sem.run_bind,Sem.run_pure,Result.andThen_ok]
   cases hu:P.underlying t with
   | none=>simp only [hu,Rd.run,reduceCtorEq] at hr
   | some d =>
    cases d<;>simp only [hu,Rd.run,reduceCtorEq] at hr
    have he:(Op.equal t (.bool a) (.bool b)).run P w = .ok (a == b) w:=by
     have gen:∀ d,(Op.equalIn (d+1) t (.bool a) (.bool b)).run P w = .ok (a == b) w:=by
      intro d
      simp only [Op.equalIn,Sem.run_bind,run_underlying hu,Result.andThen_ok,Sem.run_pure]
     exact gen 9999
    cases op<;>simp only [Rd.run,reduceCtorEq] at hr
    · cases hr
      show ((do pure (.bool (← Op.equal t (.bool a) (.bool b))):Sem Value)).run P w=_
      simp only [Sem.run_bind,he,Result.andThen_ok,Sem.run_pure]
    · cases hr
      show ((do pure (.bool (!(← Op.equal t (.bool a) (.bool b)))):Sem Value)).run P w=_
      simp only [Sem.run_bind,he,Result.andThen_ok,Sem.run_pure]
  | _=>cases hr
 | string a =>
  cases y with
  | string b =>
   rw [eqGuard_at_string]
   simp only [Sem.run_bind,Sem.run_pure,Result.andThen_ok]
   cases op<;>simp only [Rd.run,reduceCtorEq] at hr <;>
    first
     | (cases hr;simp [binOp,Op.stringOp];done)
     | (split at hr
        · cases hr
        · rename_i hb
          cases hr
          have hb':¬ ((a.size+b.size:Nat):Int)>IntKind.i64.max:=by simpa using hb
          simp only [binOp,Op.stringOp,Sem.run_ite,if_neg hb',Sem.run_pure])
  | _=>cases hr
 | _=>cases hr
end Go.Proofs.Ytlfkfajodnkkhaa.Ax
namespace Go.Proofs.Ytlfkfajodnkkhaa.Ax
open Go Go.RowKit
set_option linter.unusedVariables false
set_option linter.unusedSimpArgs false
def cellsS:SV→List SV
 | .agg l=>l
 | .v x=>match x with
  | .agg cs=>cs.toList.map SV.v
  | y=>[.v y]
 | s=>[s]
theorem map_v (ρ:Rho) (l:List Value):denL ρ (l.map SV.v)=l:=by
 rw [denL_map,List.map_map]
 have:(den ρ ∘ SV.v)=id:=by funext x;rfl
 rw [this,List.map_id]
theorem cellsS_den (ρ:Rho) (s:SV):(den ρ s).cells.toList=denL ρ (cellsS s):=by
 cases s with
 | v x=>cases x<;>first|rfl|(show _=denL ρ (List.map SV.v _);rw [map_v];rfl)
 | slc id n off len cap=>simp only [den];split<;>simp [Value.cells,cellsS,denL,den, *]
 | all id=>simp only [den];split<;>simp [Value.cells,cellsS,denL,den, *]
 | agg l=>simp [den,Value.cells,cellsS]
 | _=>simp [den,Value.cells,cellsS,denL]
theorem freeL_map_v (lo hi:Nat) (l:List Value):freeL lo hi (l.map SV.v)=true:=by
 induction l with
 | nil=>rfl
 | cons x l ih=>simp only [List.map_cons,freeL,ih,Bool.and_true];rfl
theorem cellsS_free {lo hi:Nat} {s:SV} (h:s.free lo hi=true):freeL lo hi (cellsS s)=true:=by
 cases s with
 | v x=>cases x<;>first|rfl|exact freeL_map_v _ _ _
 | agg l=>exact h
 | ptr|elt|slc|all|map|fn|tup=>all_goals (simp only [cellsS,freeL,Bool.and_true];exact h)
theorem freeL_mem {lo hi:Nat} {l:List SV} : freeL lo hi l=true↔∀ s∈l,s.free lo hi=true:=by
 induction l with
 | nil=>simp [freeL]
 | cons s l ih=>simp [freeL,ih]
theorem freeL_repl {lo hi:Nat} {c xs:List SV} (o:Nat) (h:freeL lo hi c=true) (h':freeL lo hi xs=true):freeL lo hi (repl c o xs)=true:=by
 rw [freeL_mem] at *
 intro s hs
 unfold repl at hs
 simp only [List.mem_append] at hs
 rcases hs with (hs|hs)|hs
 · exact h s (List.mem_of_mem_take hs)
 · exact h' s hs
 · exact h s (List.mem_of_mem_drop hs)
def oneS:SV→Bool
 | .agg _ | .tup _=>false
 | .v x=>x.oneCell'
 | _=>true
def allOne:List SV→Bool
 | []=>true
 | s :: l=>oneS s && allOne l
theorem oneS_den {ρ:Rho} {s:SV} (h:oneS s=true):(den ρ s).oneCell'=true:=by
 cases s with
 | v x=>exact h
 | agg l=>cases h
 | tup l=>cases h
 | slc id n off len cap=>simp only [den];split<;>rfl
 | all id=>simp only [den];split<;>rfl
 | _=>rfl
theorem allOne_den {ρ:Rho} : ∀ {l:List SV},allOne l=true→∀ v∈denL ρ l,v.oneCell'=true
 | [],_,v,h=>by cases h
 | s :: l,h,v,hv=>by
  simp only [allOne,Bool.and_eq_true] at h
  simp only [denL,List.mem_cons] at hv
  rcases hv with hv|hv
  · subst hv;exact oneS_den h.1
  · exact allOne_den h.2 v hv
def fillS (place:Nat→Option (Nat × Nat)):List SV→List (Nat × SV)→Option (List SV)
 | cells,[]=>some cells
 | cells,(i,s) :: rest=>match place i with
  | none=>none
  | some (off,size)=>cond (Nat.beq (cellsS s).length size && Nat.ble (off+size) cells.length) (fillS place (repl cells off (cellsS s)) rest) none
theorem foldl_repl:∀ (vs:List Value) (k off:Nat) (c:List Value),off+k+vs.length≤c.length→
 (vs.zipIdx k).foldl (fun (cs:Array Value) (p:Value × Nat)=>cs.setIfInBounds (off+p.2) p.1) c.toArray=(repl c (off+k) vs).toArray
 | [],k,off,c,h=>by simp [repl]
 | v :: vs,k,off,c,h=>by
  simp only [List.length_cons] at h
  simp only [List.zipIdx_cons,List.foldl_cons,List.setIfInBounds_toArray]
  rw [foldl_repl vs (k+1) off (c.set (off+k) v) (by simp;omega)]
  rw [← set_repl c (off+k) v vs (by simp;omega)]
  rfl
def denP (ρ:Rho) (ps:List (Nat × SV)):List (Nat × Value):=ps.map fun p=>(p.1,den ρ p.2)
theorem fillS_den (ρ:Rho) (place:Nat→Option (Nat × Nat)):∀ (ps:List (Nat × SV)) (c r:List SV),fillS place c ps=some r→Instr.fill place (denL ρ c).toArray (denP ρ ps)=some (denL ρ r).toArray
 | [],c,r,h=>by cases h;rfl
 | (i,s) :: ps,c,r,h=>by
  simp only [fillS] at h
  simp only [denP,List.map_cons,Instr.fill]
  cases hp:place i with
  | none=>rw [hp] at h;cases h
  | some q =>
   obtain ⟨off,size⟩:=q
   rw [hp] at h
   simp only at h ⊢
   cases hb:(Nat.beq (cellsS s).length size && Nat.ble (off+size) c.length) with
   | false=>rw [hb] at h;cases h
   | true =>
    rw [hb] at h
    simp only [cond_true] at h
    simp only [Bool.and_eq_true] at hb
    have h1:=Nat.eq_of_beq_eq_true hb.1
    have h2:=Nat.le_of_ble_eq_true hb.2
    have hl:(den ρ s).cells.size=size:=by rw [← Array.length_toList,cellsS_den,denL_length];exact h1
    have hc:((den ρ s).cells.size≠size || off+(den ρ s).cells.size>(denL ρ c).toArray.size)=false:=by
     rw [hl]
     simp [denL_length]
     exact h2
    rw [hc]
    simp only [Bool.false_eq_true,if_false]
    have hf:((den ρ s).cells.zipIdx.foldl (fun (cs:Array Value) (p:Value × Nat)=>cs.setIfInBounds (off+p.2) p.1) (denL ρ c).toArray)=(denL ρ (repl c off (cellsS s))).toArray:=by
     rw [← Array.foldl_toList,Array.toList_zipIdx,cellsS_den,denL_repl]
     have:=foldl_repl (denL ρ (cellsS s)) 0 off (denL ρ c) (by rw [denL_length,denL_length,h1];exact h2)
     simpa using this
    rw [hf]
    exact fillS_den ρ place ps _ r h
theorem fillS_free {lo hi:Nat} {place:Nat→Option (Nat × Nat)} : ∀ {ps:List (Nat × SV)} {c r:List SV},fillS place c ps=some r→freeL lo hi c=true→(∀ p∈ps,p.2.free lo hi=true)→freeL lo hi r=true
 | [],c,r,h,hc,_=>by cases h;exact hc
 | (i,s) :: ps,c,r,h,hc,hp=>by
  simp only [fillS] at h
  cases hpl:place i with
  | none=>rw [hpl] at h;cases h
  | some q =>
   obtain ⟨off,size⟩:=q
   rw [hpl] at h
   simp only at h
   cases hb:(Nat.beq (cellsS s).length size && Nat.ble (off+size) c.length) with
   | false=>rw [hb] at h;cases h
   | true =>
    rw [hb] at h
    exact fillS_free h (freeL_repl _ hc (cellsS_free (hp (i,s) (by simp)))) (fun p hm=>hp p (by simp [hm]))
def zeroT (P:Program) (t:TypeId):Option (List Value):=match P.info? t with
 | none=>none
 | some i=>match i.zero with
  | none=>none
  | some z=>some z.cells.toList
def placesT (P:Program):List Field→Option (List (Nat × Nat))
 | []=>some []
 | f :: fs=>match szT P f.type with
  | none=>none
  | some n=>match placesT P fs with
   | none=>none
   | some r=>some ((f.offset,n) :: r)
theorem placesT_eq {P:Program} : ∀ {fs:List Field} {r:List (Nat × Nat)},placesT P fs=some r→fs.mapM (fun f=>(P.info? f.type).map fun i=>(f.offset,i.size))=some r
 | [],r,h=>by cases h;rfl
 | f :: fs,r,h=>by
  simp only [placesT,szT] at h
  cases hi:P.info? f.type with
  | none=>rw [hi] at h;cases h
  | some i =>
   rw [hi] at h
   simp only [Option.map_some] at h
   cases hr:placesT P fs with
   | none=>rw [hr] at h;cases h
   | some r' =>
    rw [hr] at h
    cases h
    simp [List.mapM_cons,hi,placesT_eq hr]
def builtS (P:Program) (t:TypeId) (ps:List (Nat × SV)):Option (List SV) :=
 match zeroT P t with
 | none=>none
 | some z=>match P.underlying t with
  | some (.struct fields)=>match placesT P fields.toList with
   | none=>none
   | some pl=>fillS (fun i=>pl[i]?) (z.map SV.v) ps
  | some (.array _ e)=>match szT P e with
   | none=>none
   | some n=>fillS (fun i=>some (i * n,n)) (z.map SV.v) ps
  | _=>none
theorem builtS_den {P:Program} (ρ:Rho) {t:TypeId} {ps:List (Nat × SV)} {r:List SV} (h:builtS P t ps=some r):P.built t (denP ρ ps)=some (denL ρ r).toArray:=by
 unfold builtS zeroT at h
 unfold Program.built
 cases hi:P.info? t with
 | none=>rw [hi] at h;cases h
 | some it =>
  rw [hi] at h
  simp only at h
  cases hz:it.zero with
  | none=>rw [hz] at h;cases h
  | some z =>
   rw [hz] at h
   simp only at h
   cases hu:P.underlying t with
   | none=>rw [hu] at h;cases h
   | some d =>
    rw [hu] at h
    cases d<;>try (cases h;done)
    case struct fields =>
     simp only at h ⊢
     cases hp:placesT P fields.toList with
     | none=>rw [hp] at h;cases h
     | some pl =>
      rw [hp] at h
      simp only at h
      rw [placesT_eq hp,hz]
      simp only
      have:=fillS_den ρ _ _ _ _ h
      rw [map_v] at this
      simpa using this
    case array n e =>
     simp only at h ⊢
     unfold szT at h
     cases hie:P.info? e with
     | none=>rw [hie] at h;cases h
     | some ie =>
      rw [hie] at h
      simp only [Option.map_some] at h
      rw [hz]
      simp only
      have:=fillS_den ρ _ _ _ _ h
      rw [map_v] at this
      simpa using this
def dfl1:(s:Sc)→s.T
 | .int _=>(0:Int)
 | .bool=>false
 | .str=>ByteArray.empty
 | .adr=>(none:Option Addr)
def dfl:(l:List Sc)→TT l
 | []=>()
 | [a]=>dfl1 a
 | a :: b :: l=>(dfl1 a,dfl (b :: l))
def zerosS (z:List Value) (n:Nat):List Value:=(List.range n).map fun j=>z.toArray[j % z.length]!
theorem zerosS_eq (z:Array Value) (n:Nat):((Array.range n).map (z[· % z.size]!))=(zerosS z.toList n).toArray:=by
 apply Array.ext'
 simp [zerosS]
def aggL:SV→Option (List SV)
 | .agg l=>some l
 | .v x=>match x with
  | .agg cs=>some (cs.toList.map SV.v)
  | _=>none
 | _=>none
theorem aggL_den {ρ:Rho} {s:SV} {l:List SV} (h:aggL s=some l):den ρ s = .agg (denL ρ l).toArray:=by
 cases s with
 | agg m=>cases h;rfl
 | v x =>
  cases x with
  | agg cs=>cases h;rw [map_v];simp [den]
  | _=>cases h
 | _=>cases h
section
variable (P:Program) (rec:TypeId→SV→SV→Rd Bool)
def eqAt (t:TypeId) (xs ys:List SV) (off:Nat) (k:Bool→Rd Bool):Rd Bool:=match aggT P t with
 | none=>.fail
 | some g=>match szT P t with
  | none=>.fail
  | some z=>match part1 xs g off z with
   | none=>.fail
   | some a=>match part1 ys g off z with
    | none=>.fail
    | some b=>(rec t a b).bind k
def eqFs (xs ys:List SV):List Field→Rd Bool
 | []=>.ret true
 | f :: fs => match decEq f.name "_" with
  | .isTrue _=>eqFs xs ys fs
  | .isFalse _=>eqAt P rec f.type xs ys f.offset fun r=>(eqFs xs ys fs).bind fun r'=>.ret (r && r')
def eqEs (e n:Nat) (xs ys:List SV):Nat→Nat→Rd Bool
 | 0,_=>.ret true
 | m+1,i=>eqAt P rec e xs ys (i * n) fun r=>(eqEs e n xs ys m (i+1)).bind fun r'=>.ret (r && r')
end
def eqT (P:Program):Nat→TypeId→SV→SV→Rd Bool
 | 0,_,_,_=>.fail
 | d+1,t,x,y=>match P.underlying t with
  | none=>.fail
  | some u=>match u with
   | .bool=>match x with
    | .v (.bool a)=>match y with
     | .v (.bool b)=>.ret (a == b)
     | _=>.fail
    | _=>.fail
   | .int _=>match x with
    | .v (.int k a)=>match y with
     | .v (.int k' b)=>match decEq k k' with
      | .isTrue _=>.ret (a == b)
      | .isFalse _=>.fail
     | _=>.fail
    | _=>.fail
   | .string=>match x with
    | .v (.string a)=>match y with
     | .v (.string b)=>.ret (a == b)
     | _=>.fail
    | _=>.fail
   | .struct fields=>match P.stoodInHeld t with
    | true=>.fail
    | false=>match aggL x with
     | none=>.fail
     | some xs=>match aggL y with
      | none=>.fail
      | some ys=>eqFs P (eqT P d) xs ys fields.toList
   | .array len e=>match szT P e with
    | none=>.fail
    | some n=>match aggL x with
     | none=>.fail
     | some xs=>match aggL y with
      | none=>.fail
      | some ys=>eqEs P (eqT P d) e n xs ys len 0
   | _=>.fail
def scEq1:Sc→Sc→Bool
 | .int k,.int k'=>decide (k=k')
 | .bool,.bool=>true
 | .str,.str=>true
 | .adr,.adr=>true
 | _,_=>false
theorem scEq1_eq {a b:Sc} (h:scEq1 a b=true):a=b:=by
 cases a<;>cases b<;>first|rfl|(simp only [scEq1,decide_eq_true_eq] at h;rw [h])|cases h
def scEq:List Sc→List Sc→Bool
 | [],[]=>true
 | a :: l,b :: m=>scEq1 a b && scEq l m
 | _,_=>false
theorem scEq_eq:∀ {l m:List Sc},scEq l m=true→l=m
 | [],[],_=>rfl
 | [],_ :: _,h=>by cases h
 | _ :: _,[],h=>by cases h
 | a :: l,b :: m,h=>by
  simp only [scEq,Bool.and_eq_true] at h
  rw [scEq1_eq h.1,scEq_eq h.2]
def castL (s s':List Sc) (l:List (TT s)):Option (List (TT s')):=match h:scEq s s' with
 | true=>some (scEq_eq h ▸ l)
 | false=>none
theorem castL_eq {s s':List Sc} {l:List (TT s)} {l':List (TT s')} (h:castL s s' l=some l'):∃ e:s=s',e ▸ l=l':=by
 unfold castL at h
 split at h
 · cases h;exact ⟨_,rfl⟩
 · cases h
def eqS (P:Program) (op:BinOp) (t:TypeId) (x y:SV):Rd Out:=match P.eqGuardType P.depth t with
 | true=>.fail
 | false=>match aggL x with
  | none=>.fail
  | some _=>match aggL y with
   | none=>.fail
   | some _=>match op with
    | .eql=>(eqT P 20 t x y).bind fun r=>.ret ⟨.v (.bool r),[]⟩
    | .neq=>(eqT P 20 t x y).bind fun r=>.ret ⟨.v (.bool !r),[]⟩
    | _=>.fail
section
variable (P:Program) (C:FuncId→Option Con)
def loadS (t:TypeId) (c:List SV) (off:Nat):Rd Out :=
 match aggT P t with
 | none=>.fail
 | some g=>match szT P t with
  | none=>.fail
  | some z=>match part1 c g off z with
   | none=>.fail
   | some s=>.ret ⟨s,[]⟩
def storeS (t ty:TypeId) (id:Nat) (c:List SV) (off:Nat) (x:SV):Rd Out :=
 match szT P t with
 | none=>.fail
 | some z=>cond (Nat.beq (cellsS x).length z && Nat.ble (off+z) c.length && allOne (cellsS x)) (.ret ⟨.v undef,[(id,.cells ty (repl c off (cellsS x)))]⟩) .fail
def storePart (ty:TypeId) (id:Nat) (s:List Sc) (l:List (TT s)) (n i sub z:Nat) (x:SV):Rd Out :=
 match dec s (repl ((enc s (l.getD i (dfl s))).map SV.v) sub (cellsS x)) with
  | none=>.fail
  | some y=>cond (Nat.beq (cellsS x).length z && (Nat.beq n s.length && Nat.ble (sub+z) s.length)) (.br (decide (i<l.length)) (.ret ⟨.v undef,[(id,.row ty s (l.set i y))]⟩) .fail) .fail
def storeWhole (ty:TypeId) (id:Nat) (s:List Sc) (l:List (TT s)) (n i sub z:Nat) (x:SV):Rd Out :=
 match dec s (cellsS x) with
  | none=>.fail
  | some y=>cond (Nat.beq z s.length && (Nat.beq n s.length && Nat.beq sub 0)) (.br (decide (i<l.length)) (.ret ⟨.v undef,[(id,.row ty s (l.set i y))]⟩) .fail) .fail
def storeRowS (t ty:TypeId) (id:Nat) (s:List Sc) (l:List (TT s)) (n i sub:Nat) (x:SV):Rd Out :=
 match szT P t with
 | none=>.fail
 | some z=>cond (Nat.beq z s.length) (storeWhole ty id s l n i sub z x) (storePart ty id s l n i sub z x)
def nilP:SV→Option Bool
 | .v x=>match x with
  | .pointer none=>some true
  | _=>none
 | .ptr _ _=>some false
 | .elt _ _ _ _=>some false
 | _=>none
theorem nilP_den {ρ:Rho} {s:SV} {b:Bool} (h:nilP s=some b):∃ a:Option Addr,den ρ s = .pointer a∧a.isNone=b:=by
 unfold nilP at h
 split at h
 · split at h
   · cases h;exact ⟨none,rfl,rfl⟩
   · cases h
 · cases h;exact ⟨_,rfl,rfl⟩
 · cases h;exact ⟨_,rfl,rfl⟩
 · cases h
def eqNil (t:TypeId) (x y:SV):Option Bool:=match nilP x with
 | none=>none
 | some a=>match nilP y with
  | none=>none
  | some b=>match a || b with
   | false=>none
   | true=>match P.underlying t with
    | some (.pointer _)=>some (a && b)
    | _=>none
def nilM:SV→Option Bool
 | .v x=>match x with
  | .map none=>some true
  | _=>none
 | .map _=>some false
 | _=>none
theorem nilM_den {ρ:Rho} {s:SV} {b:Bool} (h:nilM s=some b):∃ a:Option Nat,den ρ s = .map a∧a.isNone=b:=by
 unfold nilM at h
 split at h
 · split at h
   · cases h;exact ⟨none,rfl,rfl⟩
   · cases h
 · cases h;exact ⟨_,rfl,rfl⟩
 · cases h
def eqNilM (t:TypeId) (x y:SV):Option Bool:=match nilM x with
 | none=>none
 | some a=>match nilM y with
  | none=>none
  | some b=>match a || b with
   | false=>none
   | true=>match P.underlying t with
    | some (.map _ _)=>some (a && b)
    | _=>none
def binS (op:BinOp) (t:TypeId) (x y:SV):Rd Out:=match eqNil P t x y with
 | some r=>match op with
  | .eql=>.ret ⟨.v (.bool r),[]⟩
  | .neq=>.ret ⟨.v (.bool !r),[]⟩
  | _=>.fail
 | none=>match eqNilM P t x y with
 | some r=>match op with
  | .eql=>.ret ⟨.v (.bool r),[]⟩
  | .neq=>.ret ⟨.v (.bool !r),[]⟩
  | _=>.fail
 | none=>match aggL x with
 | some _=>eqS P op t x y
 | none =>
 match x with
 | .v a=>match y with
  | .v b=>(bin1 P op t a b).bind fun r=>.ret ⟨.v r,[]⟩
  | _=>.fail
 | _=>.fail
def unS (op:UnOp) (x:SV):Rd Out :=
 match x with
 | .v (.int k a)=>match op with
  | .neg=>.ret ⟨.v (.int k (k.wrap (0 - a))),[]⟩
  | _=>.fail
 | .v (.bool b)=>match op with
  | .not=>.ret ⟨.v (.bool !b),[]⟩
  | _=>.fail
 | _=>.fail
def convS (src dst:TypeId) (x:SV):Rd Out :=
 match P.underlying src with
 | none=>.fail
 | some _=>match P.underlying dst with
  | some (.int k)=>match x with
   | .v (.int _ a)=>.ret ⟨.v (.int k (k.wrap a)),[]⟩
   | _=>.fail
  | some .string=>match x with
   | .v (.string s)=>.ret ⟨.v (.string s),[]⟩
   | _=>.fail
  | _=>.fail
def nilS (x:SV):Rd Out :=
 match x with
 | .ptr id off=>.ret ⟨.ptr id off,[]⟩
 | .elt id n i sub=>.ret ⟨.elt id n i sub,[]⟩
 | .fn (.func f) fi ca=>.ret ⟨.fn (.func f) fi ca,[]⟩
 | _=>.fail
def fieldAddrS (s:TypeId) (x:SV) (f:Nat):Rd Out :=
 match P.underlying s with
 | some (.struct fields)=>match fields[f]? with
  | none=>.fail
  | some fld=>match szT P fld.type with
   | none=>.fail
   | some z=>match Nat.beq z 0 with
    | true=>.fail
    | false=>match x with
     | .ptr id off=>.ret ⟨.ptr id (off+fld.offset),[]⟩
     | .elt id n i sub=>.ret ⟨.elt id n i (sub+fld.offset),[]⟩
     | _=>.fail
 | _=>.fail
def fieldS (s:TypeId) (x:SV) (f:Nat):Rd Out :=
 match P.underlying s with
 | some (.struct fields)=>match fields[f]? with
  | none=>.fail
  | some fld=>match x with
   | .agg c=>loadS P fld.type c fld.offset
   | _=>.fail
 | _=>.fail
def indexAddrS (t:TypeId) (x i:SV):Rd Out :=
 match i with
 | .v (.int _ i)=>match P.underlying t with
  | some (.slice e)=>match szT P e with
   | none=>.fail
   | some z=>match x with
    | .slc id n off len _=>cond (Nat.beq n z) (.obj id fun o=>match o with
     | .cells _ _=>.br (decide (0≤i)) (.br (decide (i<(len:Int))) (.ret ⟨.elt id n (off+i.toNat) 0,[]⟩) .fail) .fail
     | .ro _ _=>.br (decide (0≤i)) (.br (decide (i<(len:Int))) (.ret ⟨.elt id n (off+i.toNat) 0,[]⟩) .fail) .fail
     | .row _ s l=>.br (decide (0≤i)) (.br (decide (i<(len:Int))) (.br (decide (off+i.toNat<l.length)) (.ret ⟨.elt id n (off+i.toNat) 0,[]⟩) .fail) .fail) .fail
     | .arg s l=>.br (decide (0≤i)) (.br (decide (i<(len:Int))) (.br (decide (off+i.toNat<l.length)) (.ret ⟨.elt id n (off+i.toNat) 0,[]⟩) .fail) .fail) .fail
     | _=>.fail) .fail
    | .all id=>.obj id fun o=>match o with
     | .row _ s l=>cond (Nat.beq s.length z) (.br (decide (0≤i)) (.br (decide (i<(l.length:Int))) (.ret ⟨.elt id z i.toNat 0,[]⟩) .fail) .fail) .fail
     | .arg s l=>cond (Nat.beq s.length z) (.br (decide (0≤i)) (.br (decide (i<(l.length:Int))) (.ret ⟨.elt id z i.toNat 0,[]⟩) .fail) .fail) .fail
     | _=>.fail
    | _=>.fail
  | some (.array m e)=>match szT P e with
   | none=>.fail
   | some z=>match x with
    | .ptr id off=>.br (decide (0≤i)) (.br (decide (i<(m:Int))) (.ret ⟨.ptr id (off+i.toNat * z),[]⟩) .fail) .fail
    | _=>.fail
  | _=>.fail
 | _=>.fail
def bt (s:ByteArray) (i:Int):Int:=match s[i.toNat]? with
 | some b=>b.toNat
 | none=>0
def indexS (t:TypeId) (x i:SV):Rd Out :=
 match i with
 | .v (.int _ i)=>match P.underlying t with
  | some (.array m e)=>match szT P e with
   | none=>.fail
   | some z=>match x with
    | .agg c=>.br (decide (0≤i)) (.br (decide (i<(m:Int))) (loadS P e c (i.toNat * z)) .fail) .fail
    | _=>.fail
  | some .string=>match x with
   | .v (.string s)=>.br (decide (0≤i)) (.br (decide (i<(s.size:Int))) (.ret ⟨.v (.int .u8 (bt s i)),[]⟩) .fail) .fail
   | _=>.fail
  | _=>.fail
 | _=>.fail
def lenS (t:TypeId) (x:SV):Rd Out :=
 match P.underlying t with
 | some (.slice _)=>match x with
  | .v (.slice _ n _)=>.ret ⟨.v (.int .i64 n),[]⟩
  | .slc id _ _ len _=>.obj id fun o=>match o with
   | .cells _ _=>.ret ⟨.v (.int .i64 len),[]⟩
   | .ro _ _=>.ret ⟨.v (.int .i64 len),[]⟩
   | .row _ _ l=>.br (decide (len≤l.length)) (.ret ⟨.v (.int .i64 len),[]⟩) .fail
   | .arg _ l=>.br (decide (len≤l.length)) (.ret ⟨.v (.int .i64 len),[]⟩) .fail
   | _=>.fail
  | .all id=>.obj id fun o=>match o with
   | .row _ _ l=>.ret ⟨.v (.int .i64 l.length),[]⟩
   | .arg _ l=>.ret ⟨.v (.int .i64 l.length),[]⟩
   | _=>.fail
  | _=>.fail
 | some .string=>match x with
  | .v (.string s)=>.ret ⟨.v (.int .i64 s.size),[]⟩
  | _=>.fail
 | some (.array m _)=>.ret ⟨.v (.int .i64 m),[]⟩
 | some (.map _ _)=>match x with
  | .map id=>.obj id fun o=>match o with
   | .mapo _ _ l=>.ret ⟨.v (.int .i64 l.length),[]⟩
   | _=>.fail
  | _=>.fail
 | _=>.fail
def mx (a b:Int):Int:=if b>a then b else a
def mn (a b:Int):Int:=if b<a then b else a
def scV:Value→Option Sc
 | .int k _=>some (.int k)
 | .bool _=>some .bool
 | .string _=>some .str
 | .pointer _=>some .adr
 | _=>none
def scL:List Value→Option (List Sc)
 | []=>some []
 | v :: l=>match scV v with
  | none=>none
  | some s=>match scL l with
   | none=>none
   | some r=>some (s :: r)
def decRows (sc:List Sc) (z:Nat):Nat→List SV→Option (List (TT sc))
 | 0,c=>match c with
  | []=>some []
  | _ :: _=>none
 | m+1,c=>match dec sc (c.take z) with
  | none=>none
  | some x=>match decRows sc z m (c.drop z) with
   | none=>none
   | some r=>some (x :: r)
theorem decRows_flat (ρ:Rho) {sc:List Sc} {z:Nat} : ∀ {m:Nat} {c:List SV} {r:List (TT sc)},decRows sc z m c=some r→denL ρ c=flat sc r∧r.length=m
 | 0,c,r,h=>by
  cases c with
  | nil=>cases h;exact ⟨rfl,rfl⟩
  | cons=>cases h
 | m+1,c,r,h=>by
  simp only [decRows] at h
  cases hx:dec sc (c.take z) with
  | none=>rw [hx] at h;cases h
  | some x =>
   rw [hx] at h
   simp only at h
   cases hr:decRows sc z m (c.drop z) with
   | none=>rw [hr] at h;cases h
   | some r' =>
    rw [hr] at h
    cases h
    obtain ⟨h1,h2⟩:=decRows_flat ρ hr
    refine ⟨?_,by simp [h2]⟩
    have h3:=dec_enc ρ sc (c.take z) x hx
    have h4:denL ρ c=denL ρ (c.take z) ++ denL ρ (c.drop z):=by
     simp only [denL_map]
     rw [← List.map_append,List.take_append_drop]
    rw [h4,h3,h1]
    simp [flat]
def appX (sc:List Sc) (z m:Nat) (id2:Nat) (k:List (TT sc)→Rd Out):Rd Out:=.obj id2 fun o=>match o with
 | .cells _ c=>match decRows sc z m c with
  | none=>.fail
  | some xs=>cond (Nat.blt 0 m) (k xs) .fail
 | _=>.fail
def sliceR (id z n len:Nat) (h:Int) (mx:Option SV):Rd Out:=match mx with
 | none=>cond (Nat.beq n z) (.br (decide (0≤h)) (.br (decide (h≤(len:Int))) (.ret ⟨.slc id z 0 h.toNat none,[]⟩) .fail) .fail) .fail
 | some m=>match m with
  | .v (.int _ m)=>cond (Nat.beq n z) (.br (decide (0≤h)) (.br (decide (h≤m)) (.br (decide (m≤(len:Int))) (.ret ⟨.slc id z 0 h.toNat (some m.toNat),[]⟩) .fail) .fail) .fail) .fail
  | _=>.fail
def sliceS (t:TypeId) (x hi:SV) (mx:Option SV):Rd Out:=match P.underlying t with
 | some (.slice e)=>match szT P e with
  | none=>.fail
  | some z=>match hi with
   | .v (.int _ h)=>match x with
    | .all id=>.obj id fun o=>match o with
     | .row _ s l=>sliceR id z s.length l.length h mx
     | .arg s l=>sliceR id z s.length l.length h mx
     | _=>.fail
    | _=>.fail
   | _=>.fail
 | _=>.fail
def sliceLoS (t:TypeId) (x lo:SV):Rd Out:=match P.underlying t with
 | some (.slice e)=>match szT P e with
  | none=>.fail
  | some z=>match lo with
   | .v v=>match v with
    | .int _ a=>match x with
     | .all id=>.obj id fun o=>match o with
      | .row _ s l=>cond (Nat.beq s.length z) (.br (decide (0≤a)) (.br (decide (a<(l.length:Int))) (.ret ⟨.slc id z a.toNat (l.length - a.toNat) none,[]⟩) .fail) .fail) .fail
      | _=>.fail
     | _=>.fail
    | _=>.fail
   | _=>.fail
 | _=>.fail
def castO (sc:List Sc) (o:AObj):Option (List (TT sc)):=match o with
 | .row _ s l=>castL s sc l
 | .arg s l=>castL s sc l
 | _=>none
def appA (e z n len cap id id2 fr:Nat) (sc:List Sc) (l:List (TT sc)):Rd Out:=cond (Nat.beq n z && Nat.beq sc.length z) (.obj id2 fun o2=>.opt (castO sc o2) fun xs =>
 .br (Nat.beq len l.length && (Nat.beq cap l.length && Nat.ble (l.length+xs.length) 1000000000))
  (.br (Nat.beq xs.length 0) (.ret ⟨.slc id n 0 len (some cap),[]⟩) (.ret ⟨.all fr,[(fr,.row e sc (l ++ xs))]⟩)) .fail) .fail
def spanOf (z L:Nat) (s:SV):Option (Nat × Nat):=match s with
 | .all _=>some (0,L)
 | .slc _ n off len _=>cond (Nat.beq n z) (some (off,len)) none
 | _=>none
def idOf (s:SV):Option Nat:=match s with
 | .all id=>some id
 | .slc id _ _ _ _=>some id
 | _=>none
def cpRow {sc:List Sc} (l l2:List (TT sc)) (off off2 m:Nat):List (TT sc):=l.take off ++ ((l2.drop off2).take m ++ l.drop (off+m))
def copyS (t:TypeId) (d s:SV):Rd Out:=match P.underlying t with
 | some (.slice e)=>match szT P e with
  | none=>.fail
  | some z=>match idOf d with
   | none=>.fail
   | some i=>match idOf s with
    | none=>.fail
    | some j=>.obj i fun o=>match o with
     | .row ty sc l=>cond (Nat.beq sc.length z) (.obj j fun o2=>.opt (castO sc o2) fun l2=>match spanOf z l.length d with
      | none=>.fail
      | some p=>match spanOf z l2.length s with
       | none=>.fail
       | some q=>.br (Nat.blt 0 l.length && (Nat.blt 0 l2.length && (Nat.ble (p.1+p.2) l.length && Nat.ble (q.1+q.2) l2.length)))
        (.ret ⟨.v (.int .i64 ((Nat.min q.2 p.2:Nat):Int)),[(i,.row ty sc (cpRow l l2 p.1 q.1 (Nat.min q.2 p.2)))]⟩) .fail) .fail
     | _=>.fail
 | _=>.fail
def emptyS (e len n:Nat) (z:List Value) (ps:List (Nat × SV)) (fr:Nat):Rd Out:=cond (Nat.beq len 0 && ps.isEmpty) (match scL z with
 | none=>.fail
 | some sc=>cond (Nat.beq sc.length n) (.ret ⟨.all fr,[(fr,.row e sc [])]⟩) .fail) .fail
def makeN (e:TypeId) (size bytes:Nat) (zc:List Value) (sc:List Sc) (l c:Int) (fr:Nat):Rd Out:=match dec sc (zc.map SV.v) with
 | none=>.fail
 | some z=>cond (Nat.beq size sc.length && (Nat.ble bytes 140000 && (Nat.beq zc.length sc.length && Nat.blt 0 sc.length)))
  (.br (decide (0≤l) && decide (l≤1000000000)) (.br (decide (l=c)) (.ret ⟨.all fr,[(fr,.row e sc (List.replicate l.toNat z))]⟩) .fail) .fail) .fail
def makeS (t:TypeId) (x y:SV) (fr:Nat):Rd Out:=match x with
 | .v x=>match x with
  | .int _ l=>match y with
   | .v y=>match y with
    | .int _ c=>match P.underlying t with
     | some (.slice e)=>match P.info? e with
      | none=>.fail
      | some i=>match i.zero with
       | none=>.fail
       | some zv=>match scL zv.cells.toList with
        | none=>.fail
        | some sc=>match sc with
         | []=>.fail
         | s :: sc=>match sc with
          | s2 :: sc=>makeN e i.size i.bytes zv.cells.toList (s :: s2 :: sc) l c fr
          | []=>match decS s (.v zv) with
           | none=>.fail
           | some z=>cond (Nat.beq i.size 1 && (Nat.ble i.bytes 140000 && Nat.beq zv.cells.size 1))
            (.br (decide (0≤l) && decide (l≤1000000000)) (.br (decide (l=c)) (.ret ⟨.all fr,[(fr,.row e [s] (List.replicate l.toNat z))]⟩) .fail) .fail) .fail
     | _=>.fail
    | _=>.fail
   | _=>.fail
  | _=>.fail
 | _=>.fail
def appS (t:TypeId) (s x:SV) (fr:Nat):Rd Out:=match P.underlying t with
 | some (.slice e)=>match P.info? e with
  | none=>.fail
  | some i=>match i.zero with
   | none=>.fail
   | some zv=>cond (Nat.beq zv.cells.size i.size && Nat.blt 0 i.size && Nat.ble i.bytes 140000) (match x with
    | .slc id2 n 0 m _=>cond (Nat.beq n i.size) (match s with
     | .v (.slice none 0 0)=>match scL zv.cells.toList with
      | none=>.fail
      | some sc=>cond (Nat.beq sc.length i.size && Nat.ble m 1000000000) (appX sc i.size m id2 fun xs=>.ret ⟨.all fr,[(fr,.row e sc xs)]⟩) .fail
     | .all id=>.obj id fun o=>match o with
      | .row e' sc l=>cond (Nat.beq e' e && Nat.beq sc.length i.size) (appX sc i.size m id2 fun xs=>.br (Nat.ble (l.length+xs.length) 1000000000) (.ret ⟨.all fr,[(id,.dead),(fr,.row e sc (l ++ xs))]⟩) .fail) .fail
      | _=>.fail
     | .slc id n' 0 len (some cap)=>match scL zv.cells.toList with
      | none=>.fail
      | some sc=>cond (Nat.beq sc.length i.size && Nat.beq n' i.size && Nat.beq len cap && Nat.ble (len+m) 1000000000) (.obj id fun o=>match o with
       | .cells _ c=>match decRows sc i.size len c with
        | none=>.fail
        | some l=>appX sc i.size m id2 fun xs=>.ret ⟨.all fr,[(fr,.row e sc (l ++ xs))]⟩
       | _=>.fail) .fail
     | _=>.fail) .fail
    | .all id2=>match s with
     | .slc id n 0 len (some cap)=>.obj id fun o=>match o with
      | .arg sc l=>appA e i.size n len cap id id2 fr sc l
      | .row _ sc l=>appA e i.size n len cap id id2 fr sc l
      | _=>.fail
     | .all id=>.obj id fun o=>match o with
      | .row e' sc l=>cond (Nat.beq e' e && Nat.beq sc.length i.size) (.obj id2 fun o2=>.opt (castO sc o2) fun xs=>.br (Nat.ble (l.length+xs.length) 1000000000) (.ret ⟨.all fr,[(id,.dead),(fr,.row e sc (l ++ xs))]⟩) .fail) .fail
      | _=>.fail
     | _=>.fail
    | _=>.fail) .fail
 | _=>.fail
def callS (c:Call) (ev:Operand→Option SV) (fr:Nat):Rd Out :=
 match evL ev c.args.toList with
 | none=>.fail
 | some args=>match c.callee with
  | .value f=>match ev f with
   | some (.fn (.func g) fi ca)=>match C g with
    | none=>.fail
    | some φ=>φ (fi ++ args ++ ca) fr
   | _=>.fail
  | .invoke _ _=>.fail
  | .builtin b=>match b with
   | .len=>match c.argTypes.toList with
    | [t]=>match args with
     | [x]=>lenS P t x
     | _=>.fail
    | _=>.fail
   | .copy=>match c.argTypes.toList with
    | [t,_]=>match args with
     | [d,s]=>copyS P t d s
     | _=>.fail
    | _=>.fail
   | .append=>match c.argTypes.toList with
    | [t,t']=>cond (Nat.beq t t') (match args with
     | [s,x]=>appS P t s x fr
     | _=>.fail) .fail
    | _=>.fail
   | .max=>match args with
    | [.v (.int k a),.v (.int _ b)]=>.ret ⟨.v (.int k (mx a b)),[]⟩
    | _=>.fail
   | .min=>match args with
    | [.v (.int k a),.v (.int _ b)]=>.ret ⟨.v (.int k (mn a b)),[]⟩
    | _=>.fail
   | _=>.fail
def zeroC (t:TypeId):Option (List Value):=match P.info? t with
 | some i=>match i.zero with
  | some v=>match v with
   | .agg c=>some c.toList
   | _=>none
  | none=>none
 | none=>none
def scOf (t:TypeId):Option (List Sc):=match zeroC P t with
 | some c=>scL c
 | none=>none
def scOfE (t:TypeId):Option (List Sc):=match scOf P t with
 | some s=>match s with
  | [.adr]=>none
  | s=>some s
 | none=>match P.info? t with
  | some i=>match i.zero with
   | some (.pointer none)=>some [.adr]
   | _=>none
  | none=>none
def svV:(vs:List Sc)→TT vs→SV
 | [.adr],x=>.v (.pointer x)
 | vs,x=>.agg ((enc vs x).map SV.v)
def decV (vs:List Sc) (s:SV):Option (TT vs):=match vs with
 | [.adr]=>match s with
  | .v (.pointer a)=>some (show TT [.adr] from a)
  | _=>none
 | vs=>match aggL s with
  | none=>none
  | some vc=>dec vs vc
def zerV (et:TypeId) (vs:List Sc):Option (TT vs):=match vs with
 | [.adr]=>match P.info? et with
  | some i=>match i.zero with
   | some (.pointer none)=>some (show TT [.adr] from (none:Option Addr))
   | _=>none
  | none=>none
 | vs=>match zeroC P et with
  | none=>none
  | some zc=>dec vs (zc.map SV.v)
def eqK (kt:TypeId) (ks:List Sc) (x y:TT ks):Option Bool:=match (eqT P 20 kt (.agg ((enc ks x).map SV.v)) (.agg ((enc ks y).map SV.v))).run [] with
 | some (r,_)=>some r
 | none=>none
def eqKb (kt:TypeId) (ks:List Sc) (x y:TT ks):Bool:=match eqK P kt ks x y with
 | some r=>r
 | none=>false
def mHit (kt:TypeId) (ks vs:List Sc) (k:TT ks) (l:List (TT ks × TT vs)):List (TT ks × TT vs):=l.filter fun p=>eqKb P kt ks k p.1
def mOk (kt:TypeId) (ks vs:List Sc) (k:TT ks) (l:List (TT ks × TT vs)):Bool:=(l.all fun p=>(eqK P kt ks k p.1).isSome) && Nat.ble (mHit P kt ks vs k l).length 1
def mFind (kt:TypeId) (ks vs:List Sc) (k:TT ks) (l:List (TT ks × TT vs)):Option (TT vs):=(mHit P kt ks vs k l).head?.map fun p=>p.2
def ckFs (rec:TypeId→SV→Bool) (xs:List SV):List Field→Bool
 | []=>true
 | f :: fs => match decEq f.name "_" with
  | .isTrue _=>ckFs rec xs fs
  | .isFalse _=>match aggT P f.type with
   | none=>false
   | some g=>match szT P f.type with
    | none=>false
    | some z=>match part1 xs g f.offset z with
     | none=>false
     | some a=>rec f.type a && ckFs rec xs fs
def ckT:Nat→TypeId→SV→Bool
 | 0,_,_=>false
 | d+1,t,s=>match P.underlying t with
  | some (.int _)=>true
  | some .string=>true
  | some .bool=>true
  | some (.struct fields)=>match aggL s with
   | none=>false
   | some xs=>ckFs P (ckT d) xs fields.toList
  | _=>false
def isSt (t:TypeId):Bool:=match P.underlying t with
 | some (.struct _)=>true
 | _=>false
def lookupS (t:TypeId) (x y:SV) (ok:Bool):Rd Out:=match P.underlying t with
 | some (.map kt et)=>match x with
  | .map id=>cond (isSt P kt && ckT P 20 kt y) (.obj id fun o=>match o with
   | .mapo ks vs l=>match aggL y with
    | none=>.fail
    | some cs=>.opt (dec ks cs) fun k=>.opt (zerV P et vs) fun z=>.br (mOk P kt ks vs k l)
     (.ret ⟨match ok with
      | true=>.tup [svV vs ((mFind P kt ks vs k l).getD z),.v (.bool (mFind P kt ks vs k l).isSome)]
      | false=>svV vs ((mFind P kt ks vs k l).getD z),[]⟩) .fail
   | _=>.fail) .fail
  | _=>.fail
 | _=>.fail
def mapUpS (t:TypeId) (x y v:SV):Rd Out:=match P.underlying t with
 | some (.map kt _)=>match x with
  | .map id=>cond (isSt P kt && ckT P 20 kt y) (.obj id fun o=>match o with
   | .mapo ks vs l=>match aggL y with
    | none=>.fail
    | some cs=>.opt (dec ks cs) fun k=>.opt (decV vs v) fun u=>.br (mOk P kt ks vs k l && (mFind P kt ks vs k l).isNone) (.ret ⟨.v undef,[(id,.mapo ks vs (l ++ [(k,u)]))]⟩) .fail
   | _=>.fail) .fail
  | _=>.fail
 | _=>.fail
def makeMapS (t:TypeId) (fr:Nat):Rd Out:=match P.underlying t with
 | some (.map k e)=>match scOf P k with
  | none=>.fail
  | some ks=>match scOfE P e with
   | none=>.fail
   | some vs=>.ret ⟨.map fr,[(fr,.mapo ks vs [])]⟩
 | _=>.fail
def eff (o:Oper) (ev:Operand→Option SV) (fr:Nat):Rd Out :=
 match o.op with
 | .move x=>w1 (ev x) fun s=>.ret ⟨s,[]⟩
 | .assign x=>w1 (ev x) fun s=>.ret ⟨s,[]⟩
 | .pick c a b=>w1 (ev c) fun c=>w1 (ev a) fun a=>w1 (ev b) fun b=>match c with
  | .v (.bool t)=>.br t (.ret ⟨a,[]⟩) (.ret ⟨b,[]⟩)
  | _=>.fail
 | .box elem x=>w1 (ev x) fun s=>.ret ⟨.ptr fr 0,[(fr,.cells elem (cellsS s))]⟩
 | .alloc elem=>match zeroT P elem with
  | none=>.fail
  | some z=>.ret ⟨.ptr fr 0,[(fr,.cells elem (z.map SV.v))]⟩
 | .build t parts=>match evParts ev parts.toList with
  | none=>.fail
  | some ps=>match builtS P t ps with
   | none=>.fail
   | some cs=>.ret ⟨.agg cs,[]⟩
 | .buildSlice t len parts=>match evParts ev parts.toList with
  | none=>.fail
  | some ps=>match P.underlying t with
   | some (.slice e)=>match szT P e with
    | none=>.fail
    | some n=>match zeroT P e with
     | none=>.fail
     | some z=>cond (Nat.ble (len * n) 16777216 && !(Nat.beq (len * n) 0))
      (match fillS (fun i=>some (i * n,n)) ((zerosS z (len * n)).map SV.v) ps with
       | none=>.fail
       | some cs=>.ret ⟨.slc fr n 0 len (some len),[(fr,.cells e cs)]⟩) (emptyS e len n z ps fr)
   | _=>.fail
 | .load t a=>w1 (ev a) fun s=>match s with
  | .ptr id off=>.obj id fun o=>match o with
   | .cells _ c=>loadS P t c off
   | .ro _ c=>loadS P t c off
   | _=>.fail
  | .elt id n i sub=>.obj id fun o=>match o with
   | .cells _ c=>loadS P t c (i * n+sub)
   | .ro _ c=>loadS P t c (i * n+sub)
   | .row _ s l=>cond (Nat.beq n s.length) (.br (decide (i<l.length)) (loadS P t ((enc s (l.getD i (dfl s))).map SV.v) sub) .fail) .fail
   | .arg s l=>cond (Nat.beq n s.length) (.br (decide (i<l.length)) (loadS P t ((enc s (l.getD i (dfl s))).map SV.v) sub) .fail) .fail
   | _=>.fail
  | _=>.fail
 | .store t a x=>w1 (ev a) fun s=>w1 (ev x) fun x=>match s with
  | .ptr id off=>.obj id fun o=>match o with
   | .cells ty c=>storeS P t ty id c off x
   | _=>.fail
  | .elt id n i sub=>.obj id fun o=>match o with
   | .cells ty c=>storeS P t ty id c (i * n+sub) x
   | .row ty s l=>storeRowS P t ty id s l n i sub x
   | _=>.fail
  | _=>.fail
 | .makeSlice t x y=>w1 (ev x) fun x=>w1 (ev y) fun y=>makeS P t x y fr
 | .nilCheck x=>w1 (ev x) nilS
 | .binOp op t x y _=>w1 (ev x) fun a=>w1 (ev y) fun b=>binS P op t a b
 | .unOp op _ x=>w1 (ev x) (unS op)
 | .convert src dst x=>w1 (ev x) (convS P src dst)
 | .makeFunc fn fi ca=>match evL ev fi.toList with
  | none=>.fail
  | some a=>match evL ev ca.toList with
   | none=>.fail
   | some b=>.ret ⟨.fn fn a b,[]⟩
 | .fieldAddr s x f=>w1 (ev x) fun x=>fieldAddrS P s x f
 | .field s x f=>w1 (ev x) fun x=>fieldS P s x f
 | .indexAddr t x i=>w1 (ev x) fun x=>w1 (ev i) fun i=>indexAddrS P t x i
 | .index t x i=>w1 (ev x) fun x=>w1 (ev i) fun i=>indexS P t x i
 | .slice t x lo hi mx=>match lo with
  | some lo=>match hi with
   | some _=>.fail
   | none=>match mx with
    | some _=>.fail
    | none=>w1 (ev x) fun x=>w1 (ev lo) fun lo=>sliceLoS P t x lo
  | none=>match hi with
   | none=>.fail
   | some hi=>w1 (ev x) fun x=>w1 (ev hi) fun hi=>match mx with
    | none=>sliceS P t x hi none
    | some m=>w1 (ev m) fun m=>sliceS P t x hi (some m)
 | .extract x i=>w1 (ev x) fun x=>match x with
  | .tup l=>match l[i]? with
   | none=>.fail
   | some s=>.ret ⟨s,[]⟩
  | _=>.fail
 | .call c=>callS P C c ev fr
 | .makeMap t r=>match r with
  | none=>makeMapS P t fr
  | some _=>.fail
 | .lookup t x y ok=>w1 (ev x) fun x=>w1 (ev y) fun y=>lookupS P t x y ok
 | .mapUpdate t x y v=>w1 (ev x) fun x=>w1 (ev y) fun y=>w1 (ev v) fun v=>mapUpS P t x y v
 | _=>.fail
end
end Go.Proofs.Ytlfkfajodnkkhaa.Ax
