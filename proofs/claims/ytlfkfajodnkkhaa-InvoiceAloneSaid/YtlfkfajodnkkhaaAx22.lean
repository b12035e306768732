/- AX 22: callees as plain functions of plain values and rows: what one tells is asked once,and told on (conX). -/
import Derived.Test.YtlfkfajodnkkhaaAx21
namespace Go.Proofs.Ytlfkfajodnkkhaa.Ax
open Go Go.RowKit
set_option linter.unusedVariables false
set_option linter.unusedSimpArgs false
inductive Pc where
 | one (s:Sc)
 | agg (l:List Sc)
 | row (ty:TypeId) (s:List Sc)
 | ptr (ty:TypeId) (s:List Sc)
 | fn (g:FuncId) (b:List (TypeId × List Sc))
 | gp (ty:TypeId) (s:List Sc) (s2:List Sc)   -- a pointer to plain values and a slice behind them,read alone
def BT:List (TypeId × List Sc)→Type
 | []=>Unit
 | (_,s) :: l=>TT s × BT l
def PcT:Pc→Type
 | .one s=>s.T
 | .agg l=>TT l
 | .row _ s=>List (TT s)
 | .ptr _ s=>TT s
 | .fn _ b=>BT b
 | .gp _ s s2=>TT s × List (TT s2)
def PT:List Pc→Type
 | []=>Unit
 | a :: l=>PcT a × PT l
def nxt (a:Pc) (i:Nat):Nat:=match a with
 | .row _ _=>i+1
 | .ptr _ _=>i+1
 | .fn _ b=>i+b.length
 | .gp _ _ _=>i+2
 | _=>i
def cntP:List Pc→Nat→Nat
 | [],i=>i
 | a :: l,i=>cntP l (nxt a i)
theorem nxt_le (a:Pc) (i:Nat):i≤nxt a i:=by cases a<;>simp [nxt]
theorem cntP_le:∀ (l:List Pc) (i:Nat),i≤cntP l i
 | [],i=>Nat.le_refl _
 | a :: l,i=>Nat.le_trans (nxt_le a i) (cntP_le l _)
def ptrsB:List (TypeId × List Sc)→Nat→List SV
 | [],_=>[]
 | _ :: l,i=>.ptr i 0 :: ptrsB l (i+1)
def encP1:(a:Pc)→PcT a→Nat→SV
 | .one s,x,_=>.v (enc1 s x)
 | .agg l,x,_=>.agg ((enc l x).map SV.v)
 | .row _ _,_,i=>.all i
 | .ptr _ _,_,i=>.ptr i 0
 | .fn g b,_,i=>.fn (.func g) [] (ptrsB b i)
 | .gp _ _ _,_,i=>.ptr i 0
def encA:(l:List Pc)→PT l→Nat→List SV
 | [],_,_=>[]
 | a :: l,x,i=>encP1 a x.1 i :: encA l x.2 (nxt a i)
def heapB:(b:List (TypeId × List Sc))→BT b→Nat→Hp
 | [],_,_=>[]
 | (ty,s) :: l,x,i=>(i,.ro ty ((enc s x.1).map SV.v)) :: heapB l x.2 (i+1)
def heap1:(a:Pc)→PcT a→Nat→Hp
 | .row _ s,x,i=>[(i,.arg s x)]
 | .ptr ty s,x,i=>[(i,.ro ty ((enc s x).map SV.v))]
 | .fn _ b,x,i=>heapB b x i
 | .gp ty s s2,x,i=>[(i,.ro ty ((enc s x.1).map SV.v ++ [.all (i+1)])),(i+1,.arg s2 x.2)]
 | _,_,_=>[]
def hcA:(l:List Pc)→PT l→Nat→Hp
 | [],_,_=>[]
 | a :: l,x,i=>heap1 a x.1 i ++ hcA l x.2 (nxt a i)
def upd1:(a:Pc)→PcT a→Nat→Hp
 | .row ty s,x,i=>[(i,.row ty s x)]
 | _,_,_=>[]
def updA:(l:List Pc)→PT l→Nat→Hp
 | [],_,_=>[]
 | a :: l,x,i=>upd1 a x.1 i ++ updA l x.2 (nxt a i)
def decCA (l:List Sc) (v:SV) (k:TT l→Rd Out):Rd Out:=match v with
 | .agg c=>.opt (dec l c) k
 | _=>.fail
def decCR (s:List Sc) (v:SV) (k:List (TT s)→Rd Out):Rd Out:=match v with
 | .all id=>.obj id fun o=>match o with
  | .row _ s' l=>.opt (castL s' s l) k
  | .arg s' l=>.opt (castL s' s l) k
  | _=>.fail
 | .slc id n 0 m (some c)=>cond (Nat.beq n s.length) (.obj id fun o=>match o with
  | .cells _ cs=>cond (Nat.ble m c) (.opt (decRows s n m cs) k) .fail
  | .ro _ cs=>cond (Nat.ble m c) (.opt (decRows s n m cs) k) .fail
  | .row _ s' l=>.br (Nat.beq m l.length && Nat.ble m c) (.opt (castL s' s l) k) .fail
  | .arg s' l=>.br (Nat.beq m l.length && Nat.ble m c) (.opt (castL s' s l) k) .fail
  | _=>.fail) .fail
 | .v (.slice none 0 0)=>k []
 | _=>.fail
def decCP (ty:TypeId) (s:List Sc) (v:SV) (k:TT s→Rd Out):Rd Out:=match v with
 | .ptr id 0=>.obj id fun o=>match o with
  | .cells ty' cs=>cond (Nat.beq ty ty') (.opt (dec s cs) k) .fail
  | .ro ty' cs=>cond (Nat.beq ty ty') (.opt (dec s cs) k) .fail
  | _=>.fail
 | _=>.fail
def decCB:(b:List (TypeId × List Sc))→List SV→(BT b→Rd Out)→Rd Out
 | [],vs,k=>match vs with
  | []=>k ()
  | _ :: _=>.fail
 | (ty,s) :: l,vs,k=>match vs with
  | v :: vs=>decCP ty s v fun x=>decCB l vs fun y=>k (x,y)
  | []=>.fail
def decCF (g:FuncId) (b:List (TypeId × List Sc)) (v:SV) (k:BT b→Rd Out):Rd Out:=match v with
 | .fn f fi ca=>match f with
  | .func g'=>cond (Nat.beq g g') (match fi with
   | []=>decCB b ca k
   | _ :: _=>.fail) .fail
  | _=>.fail
 | _=>.fail
def decGO (s s2:List Sc) (cs:List SV) (k:TT s × List (TT s2)→Rd Out):Rd Out:=match cs.reverse with
 | .all j :: r=>.opt (dec s r.reverse) fun x=>.obj j fun o=>match o with
  | .row _ s' l=>.opt (castL s' s2 l) fun l=>k (x,l)
  | .arg s' l=>.opt (castL s' s2 l) fun l=>k (x,l)
  | _=>.fail
 | _=>.fail
def decCG (ty:TypeId) (s s2:List Sc) (v:SV) (k:TT s × List (TT s2)→Rd Out):Rd Out:=match v with
 | .ptr id 0=>.obj id fun o=>match o with
  | .cells ty' cs=>cond (Nat.beq ty ty') (decGO s s2 cs k) .fail
  | .ro ty' cs=>cond (Nat.beq ty ty') (decGO s s2 cs k) .fail
  | _=>.fail
 | _=>.fail
def decC1:(a:Pc)→SV→(PcT a→Rd Out)→Rd Out
 | .one s,v,k=>.opt (decS s v) k
 | .agg l,v,k=>decCA l v k
 | .row _ s,v,k=>decCR s v k
 | .ptr ty s,v,k=>decCP ty s v k
 | .fn g b,v,k=>decCF g b v k
 | .gp ty s s2,v,k=>decCG ty s s2 v k
def decC:(l:List Pc)→List SV→(PT l→Rd Out)→Rd Out
 | [],vs,k=>match vs with
  | []=>k ()
  | _ :: _=>.fail
 | a :: l,vs,k=>match vs with
  | v :: vs=>decC1 a v fun x=>decC l vs fun y=>k (x,y)
  | []=>.fail
theorem opt_run {γ α:Type} {x:Option γ} {k:γ→Rd α} {h:Hp} {r:α} {ids:List Nat} (hr:(Rd.opt x k).run h=some (r,ids)):∃ y,x=some y∧(k y).run h=some (r,ids):=by
 cases x with
 | none=>cases hr
 | some y=>exact ⟨y,rfl,hr⟩
theorem decS_den (ρ:Rho) {s:Sc} {v:SV} {x:s.T} (h:decS s v=some x):v = .v (enc1 s x):=by
 cases v<;>simp only [decS,reduceCtorEq] at h
 rw [dec1_enc1 h]
theorem arg_of_flat {ρ:Rho} {w:World} {b ty m c:Nat} {cs:List SV} {s:List Sc} {l:List (TT s)} (hk:w.heap[b]? = some (.cells (denL ρ cs).toArray ty (0,0))) (hf:denL ρ cs=flat s l) (hl:l.length=m) (hc:m≤c) :
 ∀ ρ',OK ρ' w ⟨b,0,m,c,false,none⟩ (.arg s l):=by
 intro ρ'
 refine ⟨hl.symm,.inr ⟨rfl,(Array.getElem?_eq_some_iff.1 hk).1,by simp;omega,fun j v hv=>?_⟩⟩
 rw [Nat.zero_add,cell_of_row w _ _ _ _ _ hk]
 rw [hf];simpa using hv
def InOk (w:World) (i n:Nat) (H:Hp) (ρc:Rho):Prop:=∀ j o,look H j=some o→i≤j∧j<n∧o.shared=true∧o.lt n=true∧OK ρc w (ρc j) o
theorem look_one {i j:Nat} {x o:AObj} (h:look [(i,x)] j=some o):j=i∧o=x:=by
 simp only [look] at h
 by_cases e:i=j
 · subst e;rw [Nat.beq_refl] at h;cases h;exact ⟨rfl,rfl⟩
 · rw [beq_no e] at h;cases h
theorem ltL_v (n:Nat):∀ l:List Value,ltL n (l.map SV.v)=true
 | []=>rfl
 | v :: l=>by simp only [List.map_cons,ltL,ltL_v n l];rfl
theorem decCP_run {B:Nat→Prop} {ρ:Rho} {h:Hp} {w:World} (hr:HR B ρ h w) (i:Nat) {ty:TypeId} {s:List Sc} {v:SV} {k:TT s→Rd Out} {out:Out} {ids:List Nat} (hk:(decCP ty s v k).run h=some (out,ids)) :
 ∃ (x:TT s) (ids':List Nat) (L:Loc),(∀ ρc:Rho,ρc i=L→den ρc (.ptr i 0)=den ρ v∧InOk w i (i+1) [(i,.ro ty ((enc s x).map SV.v))] ρc)∧(k x).run h=some (out,ids'):=by
 unfold decCP at hk
 split at hk
 · rename_i id
   obtain ⟨o,ids',ho,hk⟩:=obj_run hk
   have key:∀ (cs:List SV),OK ρ w (ρ id) (.cells ty cs)→(Rd.opt (dec s cs) k).run h=some (out,ids')→
    ∃ (x:TT s) (ids':List Nat) (L:Loc),(∀ ρc:Rho,ρc i=L→den ρc (.ptr i 0)=den ρ (.ptr id 0)∧InOk w i (i+1) [(i,.ro ty ((enc s x).map SV.v))] ρc)∧(k x).run h=some (out,ids'):=by
    intro cs hok hk
    obtain ⟨x,hx,hk⟩:=opt_run hk
    refine ⟨x,ids',ρ id,fun ρc hρ=>⟨by simp only [den,hρ],fun j o hj=>?_⟩,hk⟩
    obtain ⟨rfl,rfl⟩:=look_one hj
    refine ⟨Nat.le_refl _,Nat.lt_succ_self _,rfl,ltL_v _ _,?_⟩
    rw [hρ]
    obtain ⟨h1,h2,h3⟩:=hok
    refine ⟨h1,h2,?_⟩
    rw [map_v,← dec_enc ρ s cs x hx];exact h3
   split at hk
   · rename_i ty' cs
     obtain ⟨hb,hk2⟩:=cond_run hk
     obtain rfl:=Nat.eq_of_beq_eq_true hb
     exact key cs (hr.ok _ _ ho) hk2
   · rename_i ty' cs
     obtain ⟨hb,hk2⟩:=cond_run hk
     obtain rfl:=Nat.eq_of_beq_eq_true hb
     have:=hr.ok _ _ ho
     exact key cs ⟨this.1,this.2.1,this.2.2⟩ hk2
   · cases hk
 · cases hk
theorem look_append {α:Type} (l m:List (Nat × α)) (n:Nat):look (l ++ m) n=match look l n with|some x=>some x|none=>look m n:=by
 induction l with
 | nil=>rfl
 | cons p l ih =>
  obtain ⟨k,x⟩:=p
  simp only [List.cons_append,look]
  cases Nat.beq k n with
  | true=>rfl
  | false=>exact ih
theorem InOk.append {w:World} {i m n:Nat} {H H':Hp} {ρc:Rho} (h:InOk w i m H ρc) (h':InOk w m n H' ρc) (h1:i≤m) (h2:m≤n):InOk w i n (H ++ H') ρc:=by
 intro j o hj
 rw [look_append] at hj
 cases hl:look H j with
 | some z =>
  rw [hl] at hj;cases hj
  obtain ⟨k1,k2,k3,k4,k5⟩:=h j _ hl
  exact ⟨k1,by omega,k3,AObj.lt_mono h2 _ k4,k5⟩
 | none =>
  rw [hl] at hj
  obtain ⟨k1,k2,k3⟩:=h' j o hj
  exact ⟨by omega,k2,k3⟩
theorem decCB_run {B:Nat→Prop} {ρ:Rho} {h:Hp} {w:World} (hr:HR B ρ h w):∀ (b:List (TypeId × List Sc)) (i:Nat) (vs:List SV) (k:BT b→Rd Out) (out:Out) (ids:List Nat),(decCB b vs k).run h=some (out,ids)→
 ∃ (x:BT b) (ids':List Nat) (ρ0:Rho),(∀ ρc:Rho,(∀ j,i≤j→j<i+b.length→ρc j=ρ0 j)→denL ρc (ptrsB b i)=denL ρ vs∧InOk w i (i+b.length) (heapB b x i) ρc)∧(k x).run h=some (out,ids')
 | [],i,vs,k,out,ids,hk=>by
  cases vs with
  | nil=>exact ⟨(),ids,ρ,fun ρc _=>⟨rfl,fun j o hj=>by cases hj⟩,hk⟩
  | cons=>cases hk
 | (ty,s) :: l,i,vs,k,out,ids,hk=>by
  cases vs with
  | nil=>cases hk
  | cons v vs =>
   simp only [decCB] at hk
   obtain ⟨x,ids1,L,h1,hk⟩:=decCP_run hr i hk
   obtain ⟨y,ids2,ρ0,h2,hk⟩:=decCB_run hr l (i+1) vs _ out ids1 hk
   refine ⟨(x,y),ids2,fun j=>if j=i then L else ρ0 j,fun ρc hρ=>?_,hk⟩
   obtain ⟨g1,g2⟩:=h1 ρc (by rw [hρ i (Nat.le_refl _) (by simp)];exact if_pos rfl)
   obtain ⟨g3,g4⟩:=h2 ρc (fun j hj hj'=>by rw [hρ j (by omega) (by simp;omega)];exact if_neg (by omega))
   refine ⟨by simp only [ptrsB,denL,g1,g3],?_⟩
   have:=g2.append (n:=i+((ty,s) :: l).length) (by rw [List.length_cons,show i+(l.length+1)=i+1+l.length by omega];exact g4) (by omega) (by simp)
   exact this
theorem ltL_append (n:Nat):∀ l m:List SV,ltL n (l ++ m)=(ltL n l && ltL n m)
 | [],m=>by simp only [List.nil_append,ltL,Bool.true_and]
 | a :: l,m=>by simp only [List.cons_append,ltL,ltL_append n l m,Bool.and_assoc]
theorem denL_append (ρ:Rho):∀ l m:List SV,denL ρ (l ++ m)=denL ρ l ++ denL ρ m
 | [],m=>rfl
 | a :: l,m=>by simp only [List.cons_append,denL,denL_append ρ l m]
theorem decGO_run {B:Nat→Prop} {ρ:Rho} {h:Hp} {w:World} (hr:HR B ρ h w) (i id:Nat) {ty:TypeId} {s s2:List Sc} {cs:List SV} {k:TT s × List (TT s2)→Rd Out} {out:Out} {ids:List Nat} (hok:OK ρ w (ρ id) (.cells ty cs)) (hk:(decGO s s2 cs k).run h=some (out,ids)) :
 ∃ (x:TT s × List (TT s2)) (ids':List Nat) (ρ0:Rho),(∀ ρc:Rho,(∀ j,i≤j→j<i+2→ρc j=ρ0 j)→den ρc (.ptr i 0)=den ρ (.ptr id 0)∧InOk w i (i+2) [(i,.ro ty ((enc s x.1).map SV.v ++ [.all (i+1)])),(i+1,.arg s2 x.2)] ρc)∧(k x).run h=some (out,ids'):=by
 unfold decGO at hk
 split at hk
 · rename_i j r hcs
   have hcs:cs=r.reverse ++ [.all j]:=by
    have:=congrArg List.reverse hcs
    rw [List.reverse_reverse,List.reverse_cons] at this
    exact this
   obtain ⟨x,hx,hk⟩:=opt_run hk
   obtain ⟨o,ids',ho,hk⟩:=obj_run hk
   have key:∀ (s':List Sc) (l:List (TT s')),OK ρ w (ρ j) (.arg s' l)→(Rd.opt (castL s' s2 l) fun l=>k (x,l)).run h=some (out,ids')→
    ∃ (x:TT s × List (TT s2)) (ids':List Nat) (ρ0:Rho),(∀ ρc:Rho,(∀ j,i≤j→j<i+2→ρc j=ρ0 j)→den ρc (.ptr i 0)=den ρ (.ptr id 0)∧InOk w i (i+2) [(i,.ro ty ((enc s x.1).map SV.v ++ [.all (i+1)])),(i+1,.arg s2 x.2)] ρc)∧(k x).run h=some (out,ids'):=by
    intro s' l hl hk
    obtain ⟨y,hy,hk⟩:=opt_run hk
    obtain ⟨rfl,rfl⟩:=castL_eq hy
    refine ⟨(x,l),ids',fun n=>if n=i then ρ id else ρ j,fun ρc hρ=>?_,hk⟩
    have e0:ρc i=ρ id:=by rw [hρ i (Nat.le_refl _) (by omega)];exact if_pos rfl
    have e1:ρc (i+1)=ρ j:=by rw [hρ (i+1) (by omega) (by omega)];exact if_neg (by omega)
    refine ⟨by simp only [den,e0],fun n o hn=>?_⟩
    simp only [look] at hn
    cases h1:Nat.beq i n with
    | true =>
     rw [h1] at hn
     cases hn
     obtain rfl:=Nat.eq_of_beq_eq_true h1
     refine ⟨Nat.le_refl _,by omega,rfl,?_,?_⟩
     · show ltL (i+2) _=true
       rw [ltL_append,ltL_v]
       simp only [ltL,SV.lt,Bool.and_true,Bool.true_and]
       exact lt_blt (by omega)
     · rw [e0]
       obtain ⟨g1,g2,g3⟩:=hok
       refine ⟨g1,g2,?_⟩
       have ed:denL ρc ((enc s x).map SV.v ++ [.all (i+1)])=denL ρ cs:=by
        rw [hcs,denL_append,denL_append,map_v,dec_enc ρ s _ x hx]
        simp only [denL,den,e1]
       rw [ed];exact g3
    | false =>
     rw [h1] at hn
     simp only [cond_false] at hn
     cases h2:Nat.beq (i+1) n with
     | true =>
      rw [h2] at hn
      cases hn
      obtain rfl:=Nat.eq_of_beq_eq_true h2
      exact ⟨by omega,by omega,rfl,rfl,by rw [e1];exact hl⟩
     | false=>rw [h2] at hn;cases hn
   split at hk
   · rename_i ty' s' l
     exact key s' l ((show Reads (fun i=>i) (.row ty' s' l) (.arg s' l) from .inl ⟨ty',rfl⟩).ok (hr.ok _ _ ho)) hk
   · exact key _ _ (hr.ok _ _ ho) hk
   · cases hk
 · cases hk
theorem decC1_run {B:Nat→Prop} {ρ:Rho} {h:Hp} {w:World} (hr:HR B ρ h w) (i:Nat):∀ (a:Pc) (v:SV) (k:PcT a→Rd Out) (out:Out) (ids:List Nat),(decC1 a v k).run h=some (out,ids)→
 ∃ (x:PcT a) (ids':List Nat) (ρ0:Rho),(∀ ρc:Rho,(∀ j,i≤j→j<nxt a i→ρc j=ρ0 j)→den ρc (encP1 a x i)=den ρ v∧InOk w i (nxt a i) (heap1 a x i) ρc)∧(k x).run h=some (out,ids')
 | .one s,v,k,out,ids,hk=>by
  obtain ⟨x,hx,hk⟩:=opt_run hk
  refine ⟨x,ids,ρ,fun ρc _=>⟨?_,fun j o hj=>by cases hj⟩,hk⟩
  rw [decS_den ρ hx];rfl
 | .agg l,v,k,out,ids,hk=>by
  replace hk:(decCA l v k).run h=some (out,ids):=hk
  unfold decCA at hk
  split at hk
  · rename_i c
    obtain ⟨x,hx,hk⟩:=opt_run hk
    refine ⟨x,ids,ρ,fun ρc _=>⟨?_,fun j o hj=>by cases hj⟩,hk⟩
    simp only [encP1,den,map_v,dec_enc ρ l c x hx]
  · cases hk
 | .ptr ty s,v,k,out,ids,hk=>by
  obtain ⟨x,ids',L,h1,hk⟩:=decCP_run hr i (show (decCP ty s v k).run h=some (out,ids) from hk)
  exact ⟨x,ids',fun _=>L,fun ρc hρ=>h1 ρc (hρ i (Nat.le_refl _) (Nat.lt_succ_self _)),hk⟩
 | .fn g b,v,k,out,ids,hk=>by
  replace hk:(decCF g b v k).run h=some (out,ids):=hk
  unfold decCF at hk
  split at hk
  · rename_i f fi ca
    split at hk
    · rename_i g'
      obtain ⟨hb,hk2⟩:=cond_run hk
      obtain rfl:=Nat.eq_of_beq_eq_true hb
      cases fi with
      | cons=>cases hk2
      | nil =>
       obtain ⟨x,ids',ρ0,h1,hk⟩:=decCB_run hr b i ca _ out ids hk2
       refine ⟨x,ids',ρ0,fun ρc hρ=>?_,hk⟩
       obtain ⟨g1,g2⟩:=h1 ρc hρ
       exact ⟨by simp only [encP1,den,g1,denL],g2⟩
    · cases hk
  · cases hk
 | .gp ty s s2,v,k,out,ids,hk=>by
  replace hk:(decCG ty s s2 v k).run h=some (out,ids):=hk
  unfold decCG at hk
  split at hk
  · rename_i id
    obtain ⟨o,ids',ho,hk⟩:=obj_run hk
    split at hk
    · rename_i ty' cs
      obtain ⟨hb,hk2⟩:=cond_run hk
      obtain rfl:=Nat.eq_of_beq_eq_true hb
      exact decGO_run hr i id (hr.ok _ _ ho) hk2
    · rename_i ty' cs
      obtain ⟨hb,hk2⟩:=cond_run hk
      obtain rfl:=Nat.eq_of_beq_eq_true hb
      have:=hr.ok _ _ ho
      exact decGO_run hr i id ⟨this.1,this.2.1,this.2.2⟩ hk2
    · cases hk
  · cases hk
 | .row ty s,v,k,out,ids,hk=>by
  have one:∀ (x:List (TT s)) (L:Loc),(∀ ρc,OK ρc w L (.arg s x))→∀ (ρc:Rho),ρc i=L→InOk w i (i+1) (heap1 (.row ty s) x i) ρc:=by
   intro x L hL ρc hρ j o hj
   obtain ⟨rfl,rfl⟩:=look_one hj
   exact ⟨Nat.le_refl _,Nat.lt_succ_self _,rfl,rfl,by rw [hρ];exact hL ρc⟩
  have at_i:∀ (ρc ρ0:Rho),(∀ j,i≤j→j<nxt (.row ty s) i→ρc j=ρ0 j)→ρc i=ρ0 i:=fun ρc ρ0 hρ=>hρ i (Nat.le_refl _) (Nat.lt_succ_self _)
  replace hk:(decCR s v k).run h=some (out,ids):=hk
  unfold decCR at hk
  split at hk
  · rename_i id
    obtain ⟨o,ids',ho,hk⟩:=obj_run hk
    split at hk
    · rename_i ty' s' l
      obtain ⟨x,hx,hk⟩:=opt_run hk
      obtain ⟨rfl,rfl⟩:=castL_eq hx
      refine ⟨_,ids',fun _=>ρ id,fun ρc hρ=>⟨?_,one _ (ρ id) (fun ρ'=>?_) ρc (at_i _ _ hρ)⟩,hk⟩
      · simp only [encP1,den,at_i _ _ hρ]
      · have:=(show Reads (fun i=>i) (.row ty' s' l) (.arg s' l) from .inl ⟨ty',rfl⟩).ok (hr.ok _ _ ho)
        exact this
    · rename_i s' l
      obtain ⟨x,hx,hk⟩:=opt_run hk
      obtain ⟨rfl,rfl⟩:=castL_eq hx
      refine ⟨_,ids',fun _=>ρ id,fun ρc hρ=>⟨?_,one _ (ρ id) (fun ρ'=>?_) ρc (at_i _ _ hρ)⟩,hk⟩
      · simp only [encP1,den,at_i _ _ hρ]
      · exact hr.ok _ _ ho
    · cases hk
  · rename_i id n m c
    obtain ⟨hb,hk⟩:=cond_run hk
    have hn:=Nat.eq_of_beq_eq_true hb
    obtain ⟨o,ids',ho,hk⟩:=obj_run hk
    have kex:∀ (s':List Sc) (l:List (TT s')),OK ρ w (ρ id) (.arg s' l)→(Rd.br (Nat.beq m l.length && Nat.ble m c) (.opt (castL s' s l) k) .fail).run h=some (out,ids')→
     ∃ (x:PcT (.row ty s)) (ids':List Nat) (ρ0:Rho),(∀ ρc:Rho,(∀ j,i≤j→j<nxt (.row ty s) i→ρc j=ρ0 j)→den ρc (encP1 (.row ty s) x i)=den ρ (.slc id n 0 m (some c))∧InOk w i (nxt (.row ty s) i) (heap1 (.row ty s) x i) ρc)∧(k x).run h=some (out,ids'):=by
     intro s' l hok hk
     obtain ⟨hb,hk⟩:=br_run hk
     rw [Bool.and_eq_true] at hb
     have hm:=Nat.eq_of_beq_eq_true hb.1
     have hc:=Nat.le_of_ble_eq_true hb.2
     obtain ⟨x,hx,hk⟩:=opt_run hk
     obtain ⟨rfl,rfl⟩:=castL_eq hx
     obtain ⟨k0,k1⟩:=hok
     refine ⟨_,ids',fun _=>{ ρ id with cap:=c },fun ρc hρ=>⟨?_,one _ { ρ id with cap:=c } (fun ρ'=>⟨k0,?_⟩) ρc (at_i _ _ hρ)⟩,hk⟩
     · simp only [encP1,den,at_i _ _ hρ,Nat.zero_mul,Nat.add_zero]
       cases hn:(ρ id).nil with
       | true=>rfl
       | false=>rw [hm,k0]
     · rcases k1 with ⟨k1,k2⟩|⟨k1,k2,k3,k4⟩
       · exact .inl ⟨k1,k2⟩
       · exact .inr ⟨k1,k2,by rw [← hm];exact hc,k4⟩
    have key:∀ (ty':Nat) (cs:List SV),m≤c→OK ρ w (ρ id) (.cells ty' cs)→∀ x,decRows s n m cs=some x→(k x).run h=some (out,ids')→
     ∃ (x:PcT (.row ty s)) (ids':List Nat) (ρ0:Rho),(∀ ρc:Rho,(∀ j,i≤j→j<nxt (.row ty s) i→ρc j=ρ0 j)→den ρc (encP1 (.row ty s) x i)=den ρ (.slc id n 0 m (some c))∧InOk w i (nxt (.row ty s) i) (heap1 (.row ty s) x i) ρc)∧(k x).run h=some (out,ids'):=by
     intro ty' cs hc hok x hx hk
     obtain ⟨h1,h2,h3⟩:=hok
     obtain ⟨d1,d2⟩:=decRows_flat ρ hx
     refine ⟨x,ids',fun _=>⟨(ρ id).blk,0,m,c,false,none⟩,fun ρc hρ=>⟨?_,one _ _ (arg_of_flat h3 d1 d2 hc) ρc (at_i _ _ hρ)⟩,hk⟩
     simp only [encP1,den,at_i _ _ hρ,h1,h2,Bool.false_eq_true,if_false,Nat.zero_mul,Nat.add_zero]
    split at hk
    · rename_i ty' cs
      obtain ⟨hc,hk⟩:=cond_run hk
      obtain ⟨x,hx,hk⟩:=opt_run hk
      exact key ty' cs (Nat.le_of_ble_eq_true hc) (hr.ok _ _ ho) x hx hk
    · rename_i ty' cs
      obtain ⟨hc,hk⟩:=cond_run hk
      obtain ⟨x,hx,hk⟩:=opt_run hk
      have:=hr.ok _ _ ho
      exact key ty' cs (Nat.le_of_ble_eq_true hc) ⟨this.1,this.2.1,this.2.2⟩ x hx hk
    · exact kex _ _ (arg_of_row (hr.ok _ _ ho)) hk
    · exact kex _ _ (hr.ok _ _ ho) hk
    · cases hk
  · refine ⟨[],ids,fun _=>⟨0,0,0,0,true,none⟩,fun ρc hρ=>⟨?_,one [] ⟨0,0,0,0,true,none⟩ (fun ρ'=>⟨rfl,.inl ⟨rfl,rfl⟩⟩) ρc (at_i _ _ hρ)⟩,hk⟩
    simp only [encP1,den,at_i _ _ hρ,if_true]
  · cases hk
theorem decC_run {B:Nat→Prop} {ρ:Rho} {h:Hp} {w:World} (hr:HR B ρ h w):∀ (l:List Pc) (i:Nat) (vs:List SV) (k:PT l→Rd Out) (out:Out) (ids:List Nat),(decC l vs k).run h=some (out,ids)→
 ∃ (x:PT l) (ids':List Nat) (ρ0:Rho),(∀ ρc:Rho,(∀ j,i≤j→ρc j=ρ0 j)→denL ρc (encA l x i)=denL ρ vs∧InOk w i (cntP l i) (hcA l x i) ρc)∧(k x).run h=some (out,ids')
 | [],i,vs,k,out,ids,hk=>by
  unfold decC at hk
  split at hk
  · exact ⟨(),ids,ρ,fun ρc _=>⟨rfl,fun j o hj=>by cases hj⟩,hk⟩
  · cases hk
 | a :: l,i,vs,k,out,ids,hk=>by
  cases vs with
  | nil=>cases hk
  | cons v vs =>
   simp only [decC] at hk
   obtain ⟨x,ids1,ρ1,h1,hk⟩:=decC1_run hr i a v _ out ids hk
   obtain ⟨y,ids2,ρ0,h2,hk⟩:=decC_run hr l (nxt a i) vs _ out ids1 hk
   refine ⟨(x,y),ids2,fun j=>if j<nxt a i then ρ1 j else ρ0 j,fun ρc hρ=>?_,hk⟩
   obtain ⟨g1,g2⟩:=h1 ρc (fun j hj hj'=>by rw [hρ j hj];exact if_pos hj')
   obtain ⟨g3,g4⟩:=h2 ρc (fun j hj=>by rw [hρ j (Nat.le_trans (nxt_le a i) hj)];exact if_neg (by omega))
   exact ⟨by simp only [encA,denL,g1,g3],g2.append g4 (nxt_le a i) (cntP_le l _)⟩
def Pc.isRow:Pc→Bool
 | .row _ _=>true
 | _=>false
def decRA (l:List Sc) (v:SV):Option (TT l):=match v with
 | .agg c=>dec l c
 | _=>none
def decRR (ty:TypeId) (s:List Sc) (v:SV) (h:Hp):Option (List (TT s)):=match v with
 | .v (.slice none 0 0)=>some []
 | .all id=>match look h id with
  | some (.row ty' s' l)=>cond (Nat.beq ty ty') (castL s' s l) none
  | _=>none
 | .slc id n 0 m (some c)=>cond (Nat.beq n s.length && Nat.beq m c) (match look h id with
  | some (.cells ty' cs)=>cond (Nat.beq ty ty') (decRows s n m cs) none
  | _=>none) none
 | _=>none
def decR1:(a:Pc)→SV→Hp→Option (PcT a)
 | .one s,v,_=>decS s v
 | .agg l,v,_=>decRA l v
 | .row ty s,v,h=>decRR ty s v h
 | .ptr _ _,_,_=>none
 | .fn _ _,_,_=>none
 | .gp _ _ _,_,_=>none
def decR:(l:List Pc)→List SV→Hp→Option (PT l)
 | [],vs,_=>match vs with
  | []=>some ()
  | _ :: _=>none
 | a :: l,vs,h=>match vs with
  | []=>none
  | v :: vs=>match decR1 a v h with
   | none=>none
   | some x=>match decR l vs h with
    | none=>none
    | some y=>some (x,y)
def unres (n:Nat) (s:SV):Option (List SV):=match n with
 | 1=>some [s]
 | _=>match s with
  | .tup l=>some l
  | _=>none
def KX (l:List Pc) (s:SV) (h:Hp):Option (PT l):=match unres l.length s with
 | none=>none
 | some vs=>decR l vs h
theorem decR_length:∀ {l:List Pc} {vs:List SV} {h:Hp} {x:PT l},decR l vs h=some x→vs.length=l.length
 | [],vs,h,x,hx=>by
  cases vs with
  | nil=>rfl
  | cons=>cases hx
 | a :: l,vs,h,x,hx=>by
  cases vs with
  | nil=>cases hx
  | cons v vs =>
   simp only [decR] at hx
   split at hx
   · cases hx
   · split at hx
     · cases hx
     · rename_i y hy
       simp [decR_length hy]
theorem KX_res {l:List Pc} {s:SV} {h:Hp} {x:PT l} (hx:KX l s h=some x):∃ vs,decR l vs h=some x∧s=resV vs:=by
 unfold KX at hx
 cases hu:unres l.length s with
 | none=>rw [hu] at hx;cases hx
 | some vs =>
  rw [hu] at hx
  refine ⟨vs,hx,?_⟩
  unfold unres at hu
  split at hu
  · cases hu;rfl
  · rename_i hne
    split at hu
    · cases hu
      have:=decR_length hx
      match vs,this with
      | [],_=>rfl
      | [v],this=>exact absurd this.symm hne
      | _ :: _ :: _,_=>rfl
    · cases hu
theorem nxt_one {a:Pc} {v:SV} {h:Hp} {x:PcT a} (ha:a.isRow=false) (hx:decR1 a v h=some x) (i:Nat):nxt a i=i:=by
 cases a<;>first|rfl|(cases hx;done)|(cases ha;done)
theorem decR1_den {B:Nat→Prop} {ρ:Rho} {h:Hp} {w:World} (hr:HR B ρ h w) (i:Nat):∀ (a:Pc) (v:SV) (x:PcT a),decR1 a v h=some x→
 ∃ L,(∀ ρ':Rho,(a.isRow=true→ρ' i=L)→den ρ' (encP1 a x i)=den ρ v∧(∀ j o,(j,o)∈upd1 a x i→j=i∧a.isRow=true∧o.own=true∧OK ρ' w L o))∧(L.nil=false→B L.blk)
 | .one s,v,x,hx=>by
  refine ⟨⟨0,0,0,0,true,none⟩,fun ρ' _=>⟨?_,fun j o hj=>by cases hj⟩,fun h=>by cases h⟩
  rw [decS_den ρ hx];rfl
 | .ptr _ _,v,x,hx=>by cases hx
 | .fn _ _,v,x,hx=>by cases hx
 | .gp _ _ _,v,x,hx=>by cases hx
 | .agg l,v,x,hx=>by
  replace hx:decRA l v=some x:=hx
  unfold decRA at hx
  split at hx
  · rename_i c
    refine ⟨⟨0,0,0,0,true,none⟩,fun ρ' _=>⟨?_,fun j o hj=>by cases hj⟩,fun h=>by cases h⟩
    simp only [encP1,den,map_v,dec_enc ρ l c x hx]
  · cases hx
 | .row ty s,v,x,hx=>by
  have one:∀ (x:List (TT s)) (L:Loc),(∀ ρc,OK ρc w L (.row ty s x))→∀ (ρc:Rho) (j:Nat) (o:AObj),(j,o)∈upd1 (.row ty s) x i→j=i∧(Pc.row ty s).isRow=true∧o.own=true∧OK ρc w L o:=by
   intro x L hL ρc j o hj
   simp only [upd1,List.mem_singleton] at hj
   cases hj
   exact ⟨rfl,rfl,rfl,hL ρc⟩
  replace hx:decRR ty s v h=some x:=hx
  unfold decRR at hx
  split at hx
  · cases hx
    refine ⟨⟨0,0,0,0,true,none⟩,fun ρ' hρ=>⟨?_,one _ _ (fun _=>⟨rfl,.inl ⟨rfl,rfl,rfl,rfl⟩⟩) ρ'⟩,fun h=>by cases h⟩
    simp only [encP1,den,hρ rfl,if_true]
  · rename_i id
    split at hx
    · rename_i ty' s' l ho
      cases hb:Nat.beq ty ty' with
      | false=>rw [hb] at hx;cases hx
      | true =>
       rw [hb] at hx
       have hb:=Nat.eq_of_beq_eq_true hb
       subst hb
       obtain ⟨rfl,rfl⟩:=castL_eq hx
       refine ⟨ρ id,fun ρ' hρ=>⟨?_,one _ _ (fun _=>hr.ok _ _ ho) ρ'⟩,fun hn=>hr.inB _ _ ho rfl hn⟩
       simp only [encP1,den,hρ rfl]
    · cases hx
  · rename_i id n m c
    cases hb:(Nat.beq n s.length && Nat.beq m c) with
    | false=>rw [hb] at hx;cases hx
    | true =>
     rw [hb] at hx
     rw [Bool.and_eq_true] at hb
     have hn:=Nat.eq_of_beq_eq_true hb.1
     have hc:=Nat.eq_of_beq_eq_true hb.2
     subst hc
     simp only [cond_true] at hx
     split at hx
     · rename_i ty' cs ho
       cases hb:Nat.beq ty ty' with
       | false=>rw [hb] at hx;cases hx
       | true =>
        rw [hb] at hx
        have hb:=Nat.eq_of_beq_eq_true hb
        subst hb
        obtain ⟨h1,h2,h3⟩:=hr.ok _ _ ho
        obtain ⟨d1,d2⟩:=decRows_flat ρ hx
        have hfl:(flat s x).length=m * s.length:=(flat_length s x).trans (congrArg (· * s.length) d2)
        refine ⟨⟨(ρ id).blk,0,m,m,false,none⟩,fun ρ' hρ=>⟨?_,one x ⟨(ρ id).blk,0,m,m,false,none⟩ (fun _=>⟨d2.symm,.inr ⟨rfl,rfl,by simp;omega,_,h3,?_,?_⟩⟩) ρ'⟩,fun _=>hr.inB _ _ ho rfl h1⟩
        · simp only [encP1,den,hρ rfl,h1,h2,Bool.false_eq_true,if_false,Nat.zero_mul,Nat.add_zero]
        · rw [d1,List.size_toArray];exact hfl
        · rw [d1]
          show (flat s x).take _=_
          rw [d2]
          exact List.take_of_length_le (Nat.le_of_eq hfl)
     · cases hx
  · cases hx
def rowsP:List Pc→Nat
 | []=>0
 | a :: l=>cond a.isRow (rowsP l+1) (rowsP l)
theorem decR_den {B:Nat→Prop} {ρ:Rho} {h:Hp} {w:World} (hr:HR B ρ h w) (i:Nat):∀ (l:List Pc) (vs:List SV) (x:PT l),rowsP l≤1→decR l vs h=some x→
 ∃ L,(∀ ρ':Rho,(rowsP l=1→ρ' i=L)→denL ρ' (encA l x i)=denL ρ vs∧(updA l x i=[]∨∃ o,rowsP l=1∧updA l x i=[(i,o)]∧o.own=true∧OK ρ' w L o))∧(L.nil=false→B L.blk)
 | [],vs,x,_,hx=>by
  cases vs with
  | nil=>exact ⟨⟨0,0,0,0,true,none⟩,fun ρ' _=>⟨rfl,.inl rfl⟩,fun h=>by cases h⟩
  | cons=>cases hx
 | a :: l,vs,x,hl,hx=>by
  cases vs with
  | nil=>cases hx
  | cons v vs =>
   simp only [decR] at hx
   split at hx
   · cases hx
   · rename_i x1 hx1
     split at hx
     · cases hx
     · rename_i y hy
       cases hx
       obtain ⟨L1,k1,k2⟩:=decR1_den hr i a v x1 hx1
       cases ha:a.isRow with
       | false =>
        have hni:=nxt_one ha hx1 i
        have hrow:rowsP (a :: l)=rowsP l:=by simp only [rowsP,ha,cond_false]
        obtain ⟨L,g1,g2⟩:=decR_den hr i l vs y (by omega) hy
        refine ⟨L,fun ρ' hρ=>?_,g2⟩
        obtain ⟨e1,e2⟩:=k1 ρ' (fun h=>by rw [ha] at h;cases h)
        obtain ⟨e3,e4⟩:=g1 ρ' (fun h=>hρ (by omega))
        have hu:upd1 a x1 i=[]:=by cases a<;>first|rfl|cases ha
        refine ⟨by simp only [encA,denL,hni,e1,e3],?_⟩
        simp only [updA,hu,hni,List.nil_append,hrow]
        exact e4
       | true =>
        have hrow:rowsP (a :: l)=rowsP l+1:=by simp only [rowsP,ha,cond_true]
        refine ⟨L1,fun ρ' hρ=>?_,k2⟩
        obtain ⟨e1,e2⟩:=k1 ρ' (fun _=>hρ (by omega))
        obtain ⟨L,g1,g2⟩:=decR_den hr (nxt a i) l vs y (by omega) hy
        obtain ⟨e3,e4⟩:=g1 ρ' (fun h=>by omega)
        refine ⟨by simp only [encA,denL,e1,e3],.inr ?_⟩
        rcases e4 with e4|⟨_,h0,_⟩
        · cases a with
          | row ty s =>
           obtain ⟨_,_,o1,o2⟩:=e2 i (.row ty s x1) (by simp [upd1])
           refine ⟨.row ty s x1,by omega,?_,o1,o2⟩
           simp only [updA,e4,upd1,List.append_nil]
          | _=>cases ha
        · omega
def conX (lin lout:List Pc) (V:PT lin→Option (PT lout)):Con:=fun args lo=>decC lin args fun x=>.opt (V x) fun y=>.ret ⟨resV (encA lout y lo),updA lout y lo⟩
theorem den_resV (ρ ρ':Rho):∀ {l l':List SV},denL ρ l=denL ρ' l'→den ρ (resV l)=den ρ' (resV l'):=by
 intro l l' h
 have hlen:l.length=l'.length:=by rw [← denL_length ρ l,h,denL_length]
 match l,l',hlen with
 | [],[],_=>rfl
 | [a],[b],_=>simp only [denL,List.cons.injEq,and_true] at h;exact h
 | a :: b :: l,a' :: b' :: l',_=>simp only [resV,den,h]
section
variable {P:Program} {C:FuncId→Option Con} {cn:Nat→St→Option St} {f:FuncId} {fn:Func}
theorem ptrsB_lt:∀ (b:List (TypeId × List Sc)) (i n:Nat),i+b.length≤n→ltL n (ptrsB b i)=true
 | [],i,n,_=>rfl
 | _ :: l,i,n,h=>by
  simp only [List.length_cons] at h
  simp only [ptrsB,ltL,SV.lt,ptrsB_lt l (i+1) n (by omega),Bool.and_true]
  exact lt_blt (by omega)
theorem encA_lt:∀ (l:List Pc) (x:PT l) (i n:Nat),cntP l i≤n→ltL n (encA l x i)=true
 | [],x,i,n,_=>rfl
 | a :: l,x,i,n,h=>by
  have h1:=encA_lt l x.2 (nxt a i) n h
  have h2:=cntP_le l (nxt a i)
  simp only [cntP] at h
  simp only [encA,ltL,h1,Bool.and_true]
  cases a with
  | one s=>rfl
  | agg s=>exact ltL_v n _
  | row ty s=>exact lt_blt (by simp only [nxt] at h h2;omega)
  | ptr ty s=>exact lt_blt (by simp only [nxt] at h h2;omega)
  | gp ty s s2=>exact lt_blt (by simp only [nxt] at h h2;omega)
  | fn g b =>
   simp only [nxt] at h h2
   simp only [encP1,SV.lt,ptrsB_lt b i n (by omega),Bool.and_true]
   rfl
theorem conX_ok (hm : P.follows .mixedOrders = true) (hf : P.funcs[f]? = some fn) (hname : (fn.name == "runtime.NumGoroutine") = false) (hbody : fn.body.isSome = true)
 (hC:∀ B' g φ,C g=some φ→ConOk P B' g φ) (hcn:∀ B' (w:World),CnOk cn B' (Base.of w) fn.ntmps) (lin lout:List Pc) (h1:rowsP lout≤1) (F:PT lin→Nat) (V:PT lin→Option (PT lout))
 (hV:∀ x y,V x=some y→evFn P C cn (F x) fn (encA lin x 0) (hcA lin x 0) (cntP lin 0) (KX lout)=some y) (B:Nat→Prop):ConOk P B f (conX lin lout V):=by
 obtain ⟨c0,hbody⟩:=Option.isSome_iff_exists.1 hbody
 intro args ρ h w lo out ids hrun hr hfree hfa up
 obtain ⟨x,ids',ρ0,hin,hrun⟩:=decC_run hr lin 0 args _ out ids hrun
 obtain ⟨y,hy,hrun⟩:=opt_run hrun
 cases hrun
 obtain ⟨hd,hheap⟩:=hin ρ0 (fun _ _=>rfl)
 refine .inl ⟨Go.run_callFunc_enter' hf hname hbody _ _,?_⟩
 rw [← hd]
 have hrc:HR (fun b=>w.heap.size≤b) ρ0 (hcA lin x 0) w:=by
  refine ⟨fun i oc ho=>(hheap i oc ho).2.2.2.2,fun i oc ho hown=>?_,fun i oc ho hs hn=>?_,fun i j o o' ho ho' hown=>?_⟩
  · have:=(hheap i oc ho).2.2.1
    cases oc<;>first|(cases hown;done)|(cases this;done)
  · have:=(hheap i oc ho).2.2.2.2.lt (fun e=>by subst e;cases hs) hn
    show ¬ w.heap.size≤_
    omega
  · have:=(hheap i o ho).2.2.1
    cases o<;>first|(cases hown;done)|(cases this;done)
 have hwf:∀ i o,look (hcA lin x 0) i=some o→i<cntP lin 0∧o.lt (cntP lin 0)=true:=fun i o ho=>⟨(hheap i o ho).2.1,(hheap i o ho).2.2.2.1⟩
 refine (evFn_sound hm hf (hC _) (hV x y hy) ρ0 w (Base.of w) rfl (fun i hi=>absurd hi (Nat.not_lt_zero _)) (Nat.zero_le _) (hcn _ w) hrc hwf (encA_lt lin x 0 _ (Nat.le_refl _)) (fun b hb=>hb)).mono ?_
 rintro e w' ⟨ρ1,s,h',rfl,hk,hr1,hks,_⟩
 obtain ⟨vs,hvs,rfl⟩:=KX_res hk
 refine ⟨_,rfl,?_⟩
 have hb:Below w.heap.size w w':=hks.below (fun b hb=>hb)
 obtain ⟨L,g1,g2⟩:=decR_den hr1 lo lout vs y h1 hvs
 obtain ⟨e1,e2⟩:=g1 (setRho ρ lo L) (fun _=>setRho_same _ _ _)
 have hval:=den_resV _ _ e1
 rcases e2 with e2|⟨o,hrow,e2,e3,e4⟩
 · rw [e2]
   refine ⟨setRho ρ lo L,hval.symm,fun i hi=>setRho_other _ _ (fun e=>by subst e;unfold wide at hi;omega),?_,Keeps.of_below hb up⟩
   have hkeep:HR B ρ h w':=hr.keep hb.size fun i o ho hd hn=>hb.block _ ((hr.ok i o ho).lt hd hn)
   have hne:∀ i x,look h i=some x→i≠lo:=fun i x hx e=>by have:=(hfree i x hx).1;unfold wide at this;omega
   have hρ:∀ i,i<lo∨lo+wide≤i→setRho ρ lo L i=ρ i:=fun i hi=>setRho_other _ _ (fun e=>by subst e;unfold wide at hi;omega)
   refine ⟨fun i o ho=>?_,fun i o ho hw hn=>?_,fun i o ho hs hn=>?_,fun i j o o' ho ho' hw hw' hn hn' hij=>?_⟩
   · rw [setRho_other _ _ (hne i o ho)]
     exact (hkeep.ok i o ho).keep (fun ty' c' e=>denL_free (lo:=lo) (hi:=lo+wide) hρ c' (free_cells (hfree i o ho).2 ty' c' e)) (fun _=>rfl) (Nat.le_refl _)
   · rw [setRho_other _ _ (hne i o ho)] at hn ⊢;exact hr.inB i o ho hw hn
   · rw [setRho_other _ _ (hne i o ho)] at hn ⊢;exact hr.arg i o ho hs hn
   · rw [setRho_other _ _ (hne i o ho)] at hn ⊢;rw [setRho_other _ _ (hne j o' ho')] at hn' ⊢;exact hr.inj i j o o' ho ho' hw hw' hn hn' hij
 · rw [e2]
   have m:=made_new (s:=resV (encA lout y lo)) (o:=o) (L:=L) hr hfree (show lo<lo+wide by unfold wide;omega) up (Keeps.of_below hb up) (fun k hk=>hb.block k hk) e3 g2 e4
   rw [hval] at m
   exact ⟨_,m⟩
def nilRow1 (t:Nat) (ty:TypeId) (s:List Sc) (σ:St):St:=match look σ.sl t with
 | some (.v (.slice none 0 0))=>⟨put σ.sl t (.all σ.nx),put σ.hp σ.nx (.row ty s []),σ.nx+1⟩
 | _=>σ
theorem nilRow1_ok {B:Nat→Prop} {w0:Base} {n:Nat} (t:Nat) (ty:TypeId) (s:List Sc) {σ:St} (hw:Wf w0.pin σ):Wf w0.pin (nilRow1 t ty s σ)∧∀ ρ a w,R B w0 n σ ρ a w→∃ ρ',R B w0 n (nilRow1 t ty s σ) ρ' a w:=by
 unfold nilRow1
 split
 · rename_i ht
   refine ⟨⟨fun u z hz=>?_,fun i o ho=>?_,Nat.le_succ_of_le hw.px⟩,fun ρ a w hR=>⟨setRho ρ σ.nx ⟨0,0,0,0,true,none⟩,?_⟩⟩
   · simp only [look_put] at hz
     split at hz
     · cases hz;exact lt_blt (Nat.lt_succ_self _)
     · exact SV.lt_mono (Nat.le_succ _) z (hw.sl u z hz)
   · simp only [look_put] at ho
     split at ho
     · rename_i e;subst e;cases ho;exact ⟨Nat.lt_succ_self _,rfl⟩
     · exact ⟨Nat.lt_succ_of_lt (hw.hp i o ho).1,AObj.lt_mono (Nat.le_succ _) o (hw.hp i o ho).2⟩
   · have hρ:∀ i,i<σ.nx∨σ.nx+1≤i→setRho ρ σ.nx ⟨0,0,0,0,true,none⟩ i=ρ i:=fun i hi=>setRho_other _ _ (by omega)
     have hne:∀ i o,look σ.hp i=some o→i≠σ.nx:=fun i o ho=>Nat.ne_of_lt (hw.hp i o ho).1
     refine ⟨hR.sz,hR.df,fun u z hz=>?_,⟨fun i o ho=>?_,fun i o ho hown hn=>?_,fun i o ho hs hn=>?_,fun i j o o' ho ho' hown hown' hn hn' hij=>?_⟩,hR.up,hR.ks,fun i hi=>?_⟩
     · simp only [look_put] at hz
       split at hz
       · rename_i e
         subst e
         cases hz
         obtain ⟨h1,h2⟩:=hR.sl t _ ht
         refine ⟨h1,?_⟩
         rw [h2]
         simp only [den,setRho_same,if_true]
       · obtain ⟨h1,h2⟩:=hR.sl u z hz
         refine ⟨h1,?_⟩
         rw [h2]
         exact (den_free hρ z (SV.lt_free (Nat.le_refl _) z (hw.sl u z hz))).symm
     · simp only [look_put] at ho
       split at ho
       · rename_i e;subst e;cases ho;rw [setRho_same];exact ⟨rfl,.inl ⟨rfl,rfl,rfl,rfl⟩⟩
       · rw [setRho_other _ _ (hne i o ho)]
         exact (hR.hr.ok i o ho).keep (fun ty' c' e=>denL_free hρ c' (free_cells (AObj.lt_free (Nat.le_refl _) o (hw.hp i o ho).2) ty' c' e)) (fun _=>rfl) (Nat.le_refl _)
     · simp only [look_put] at ho
       split at ho
       · rename_i e;subst e;rw [setRho_same] at hn;cases hn
       · rw [setRho_other _ _ (hne i o ho)] at hn ⊢;exact hR.hr.inB i o ho hown hn
     · simp only [look_put] at ho
       split at ho
       · rename_i e;subst e;rw [setRho_same] at hn;cases hn
       · rw [setRho_other _ _ (hne i o ho)] at hn ⊢;exact hR.hr.arg i o ho hs hn
     · simp only [look_put] at ho ho'
       split at ho
       · rename_i e;subst e;rw [setRho_same] at hn;cases hn
       · split at ho'
         · rename_i e;subst e;rw [setRho_same] at hn';cases hn'
         · rw [setRho_other _ _ (hne i o ho)] at hn ⊢;rw [setRho_other _ _ (hne j o' ho')] at hn' ⊢;exact hR.hr.inj i j o o' ho ho' hown hown' hn hn' hij
     · rw [setRho_other _ _ (by have:=hw.px;omega)];exact hR.pn i hi
 · exact ⟨hw,fun ρ a w hR=>⟨ρ,hR⟩⟩
def nilRows:List (Nat × TypeId × List Sc)→St→St
 | [],σ=>σ
 | (t,ty,s) :: l,σ=>nilRows l (nilRow1 t ty s σ)
theorem nilRows_ok {B:Nat→Prop} {w0:Base} {n:Nat} : ∀ (l:List (Nat × TypeId × List Sc)) {σ:St},Wf w0.pin σ→Wf w0.pin (nilRows l σ)∧∀ ρ a w,R B w0 n σ ρ a w→∃ ρ',R B w0 n (nilRows l σ) ρ' a w
 | [],σ,hw=>⟨hw,fun ρ a w hR=>⟨ρ,hR⟩⟩
 | (t,ty,s) :: l,σ,hw=>by
  obtain ⟨h1,h2⟩:=nilRow1_ok (B:=B) (n:=n) t ty s hw
  obtain ⟨h3,h4⟩:=nilRows_ok (B:=B) (n:=n) l h1
  exact ⟨h3,fun ρ a w hR=>by obtain ⟨ρ',hR'⟩:=h2 ρ a w hR;exact h4 ρ' a w hR'⟩
def cnRow (pin:Nat) (T:Nat→Option (List Nat × List (Nat × TypeId × List Sc))) (k:Nat) (σ:St):Option St:=match T k with
 | none=>some σ
 | some (S,N)=>match gcSt S pin σ with
  | none=>none
  | some σ1=>match gcSt S pin (nilRows N σ1) with
   | none=>none
   | some σ'=>forceSt σ' some
theorem cnRow_ok {pin:Nat} {T:Nat→Option (List Nat × List (Nat × TypeId × List Sc))} {B:Nat→Prop} {w0:Base} {n:Nat} (hp:w0.pin≤pin:=by exact Nat.zero_le _):CnOk (cnRow pin T) B w0 n:=by
 intro k σ σ' h
 unfold cnRow at h
 split at h
 · cases h;exact ⟨fun h=>h,fun ρ a w hR=>⟨ρ,hR⟩⟩
 · split at h
   · cases h
   · rename_i σ1 hg
     split at h
     · cases h
     · rename_i σ2 hg2
       rw [forceSt_eq] at h
       cases h
       obtain ⟨h1,h2⟩:=gcSt_ok (B:=B) (n:=n) hp hg
       obtain ⟨h3,h4⟩:=nilRows_ok (B:=B) (n:=n) _ h1
       obtain ⟨h5,h6⟩:=gcSt_ok (B:=B) (n:=n) hp hg2
       refine ⟨fun _=>h5,fun ρ a w hR=>?_⟩
       obtain ⟨ρ1,hR1⟩:=h2 ρ a w hR
       obtain ⟨ρ2,hR2⟩:=h4 ρ1 a w hR1
       exact h6 ρ2 a w hR2
noncomputable def evX (P:Program) (C:FuncId→Option Con) (cn:Nat→St→Option St) (F:Nat) (fn:Func) (lin lout:List Pc) (x:PT lin):Option (PT lout):=evFn P C cn F fn (encA lin x 0) (hcA lin x 0) (cntP lin 0) (KX lout)
end
end Go.Proofs.Ytlfkfajodnkkhaa.Ax
