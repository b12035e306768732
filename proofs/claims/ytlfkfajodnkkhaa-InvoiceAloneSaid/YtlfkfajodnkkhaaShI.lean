/- The stable sort of the parts,proved. -/
import Derived.Test.YtlfkfajodnkkhaaAx22
import Derived.Test.YtlfkfajodnkkhaaAx14
import Derived.Test.YtlfkfajodnkkhaaWWords
import Derived.Test.YtlfkfajodnkkhaaAx21
import Derived.Test.YtlfkfajodnkkhaaX0
import Derived.Test.YtlfkfajodnkkhaaRngA
namespace Go.Proofs.Ytlfkfajodnkkhaa.Ax
open Go Go.RowKit
set_option linter.unusedVariables false
set_option linter.unusedSimpArgs false
def takeRow (ty:TypeId) (s:List Sc) (v:SV) (h:Hp):Option (List (TT s) × Hp):=match v with
 | .v (.slice none 0 0)=>some ([],h)
 | .all k=>match look h k with
  | some (.row ty' s' l)=>cond (Nat.beq ty ty') (match castL s' s l with
   | none=>none
   | some l'=>some (l',put h k .dead)) none
  | _=>none
 | .slc k n 0 m (some c)=>cond (Nat.beq n s.length && Nat.beq m c) (match look h k with
  | some (.cells ty' cs)=>cond (Nat.beq ty ty') (match decRows s n m cs with
   | none=>none
   | some l'=>some (l',put h k .dead)) none
  | _=>none) none
 | _=>none
def rowCell (id j:Nat) (ty:TypeId) (s:List Sc) (σ:St):Option St:=match look σ.hp id with
 | some (.cells t c)=>match c[j]? with
  | some v=>match takeRow ty s v σ.hp with
   | some (l,h')=>match look h' id with
    | some (.cells t' c')=>match Nat.beq t t' && Nat.blt id σ.nx with
     | true=>some ⟨σ.sl,put (put h' σ.nx (.row ty s l)) id (.cells t (c.set j (.all σ.nx))),σ.nx+1⟩
     | false=>none
    | _=>none
   | none=>none
  | none=>none
 | _=>none
def rowRes (j:Nat) (ty:TypeId) (s:List Sc) (σ:St):Option St:=match look σ.sl 0 with
 | some (.tup c)=>match c[j]? with
  | some v=>match takeRow ty s v σ.hp with
   | some (l,h')=>some ⟨put σ.sl 0 (.tup (c.set j (.all σ.nx))),put h' σ.nx (.row ty s l),σ.nx+1⟩
   | none=>none
  | none=>none
 | some v=>match takeRow ty s v σ.hp with
  | some (l,h')=>some ⟨put σ.sl 0 (.all σ.nx),put h' σ.nx (.row ty s l),σ.nx+1⟩
  | none=>none
 | none=>none
def dropNm (id:Nat) (σ:St):Option St:=match look σ.hp id with
 | some _=>some ⟨σ.sl,put σ.hp id .dead,σ.nx⟩
 | none=>none
inductive Rw where
 | drop (id:Nat)
 | cell (id j:Nat) (ty:TypeId) (s:List Sc)
 | res (j:Nat) (ty:TypeId) (s:List Sc)
def rows:List Rw→St→Option St
 | [],σ=>some σ
 | .drop id :: l,σ=>match dropNm id σ with
  | none=>none
  | some σ'=>rows l σ'
 | .cell id j ty s :: l,σ=>match rowCell id j ty s σ with
  | none=>none
  | some σ'=>rows l σ'
 | .res j ty s :: l,σ=>match rowRes j ty s σ with
  | none=>none
  | some σ'=>rows l σ'
noncomputable def conV (V:Nat→List SV→Hp→Option (Bool × SV × Hp)):Con:=fun args lo =>
 gatherR 60 (namesL args) [] fun acc=>cond (idsL (chkRen acc) args && chkIdx acc 0 acc)
  (.opt (forceC (renL (fun i=>idxOf i 0 acc) args) fun args'=>forceHp (hcOf true (fun i=>idxOf i 0 acc) 0 acc) fun hc=>forceN acc.length fun p=>match V p args' hc with
   | none=>none
   | some y=>cond (ownChk y.2.2 hc) (some y) none) fun y=>.br y.1 (.ret ⟨ren (mr (nthOf acc) acc.length lo) y.2.1,updGo (mr (nthOf acc) acc.length lo) y.2.2 y.2.2⟩) .fail) .fail
section
variable {P:Program} {C:FuncId→Option Con} {cn:Nat→St→Option St}
theorem conV_ok {f : FuncId} {fn : Func} {V : Nat → List SV → Hp → Option (Bool × SV × Hp)} (hm : P.follows .mixedOrders = true) (hf : P.funcs[f]? = some fn) (hname : (fn.name == "runtime.NumGoroutine") = false) (hbody : fn.body.isSome = true)
 (hC:∀ B' g φ,C g=some φ→ConOk P B' g φ) (G:Nat→St→Option St) (hG:∀ p,GOk (G p) p) (hV:∀ p args hc r hp',V p args hc=some (true,r,hp')→∃ F cn,(∀ B' (w0:Base),w0.pin≤p→CnOk cn B' w0 fn.ntmps)∧evFn P C cn F fn args hc p (KG (G p) p)=some (r,hp')) (B:Nat→Prop):ConOk P B f (conV V):=by
 obtain ⟨c0,hbody⟩:=Option.isSome_iff_exists.1 hbody
 intro args ρ h w lo out ids hr hrh hfree hfa up
 unfold conV at hr
 obtain ⟨acc,ids',hacc,hr⟩:=gatherR_run 60 _ _ out ids hr (fun q hq=>by cases hq)
 cases hchk:(idsL (chkRen acc) args && chkIdx acc 0 acc) with
 | false=>rw [hchk] at hr;cases hr
 | true =>
 rw [hchk] at hr
 simp only [cond_true] at hr
 rw [Bool.and_eq_true] at hchk
 obtain ⟨y,hy,hr⟩:=opt_run hr
 obtain ⟨hb,hr⟩:=br_run hr
 cases hr
 simp only [forceC_eq,forceHp_eq,forceN_eq] at hy
 cases hk:V acc.length (renL (fun i=>idxOf i 0 acc) args) (hcOf true (fun i=>idxOf i 0 acc) 0 acc) with
  | none=>rw [hk] at hy;cases hy
  | some x =>
   obtain ⟨b,r,hp'⟩:=x
   rw [hk] at hy
   simp only at hy
   cases ho:ownChk hp' (hcOf true (fun i=>idxOf i 0 acc) 0 acc) with
   | false=>rw [ho] at hy;cases hy
   | true =>
    rw [ho] at hy
    cases hy
    obtain rfl:b=true:=hb
    obtain ⟨F,cn,hcn,hev⟩:=hV _ _ _ _ _ hk
    have hq:∀ i,chkRen acc i=true→nthOf acc (idxOf i 0 acc)=i:=fun i hi=>by
     unfold chkRen at hi
     rw [Bool.and_eq_true] at hi
     exact Nat.eq_of_beq_eq_true hi.2
    have hl:∀ i,chkRen acc i=true→idxOf i 0 acc<acc.length:=fun i hi=>by
     unfold chkRen at hi
     rw [Bool.and_eq_true] at hi
     exact blt_lt hi.1
    have hargs:=renL_back hq args hchk.1
    have get:∀ i oc,look (hcOf true (fun i=>idxOf i 0 acc) 0 acc) i=some oc→∃ q,acc[i]? = some q∧oc=viewO true (fun i=>idxOf i 0 acc) q.2∧q.2.isDead=false∧nthOf acc i=q.1∧idxOf q.1 0 acc=i∧q.2.ids (chkRen acc)=true:=by
     intro i oc hi
     obtain ⟨q,_,h2,h3,h4⟩:=hcOf_look hi
     have h2:acc[i]? = some q:=h2
     obtain ⟨h5,h6⟩:=chkIdx_get hchk.2 h2
     exact ⟨q,h2,h3,h4,nthOf_get h2,by omega,h6⟩
    have:=con_ownG (B:=B) hm hf hname hbody hC (p:=acc.length) hcn (renL (fun i=>idxOf i 0 acc) args) (nthOf acc) (hcOf true (fun i=>idxOf i 0 acc) 0 acc) r hp' (hG _) hev ρ h w lo hrh hfree up
     (renL_lt hl args hchk.1)
     (fun i oc hi=>by
      obtain ⟨q,h2,rfl,h4,h5,h6,h7⟩:=get i oc hi
      refine ⟨(List.getElem?_eq_some_iff.1 h2).1,?_⟩
      obtain ⟨a,o⟩:=q
      cases o with
      | cells ty c=>exact renL_lt hl c h7
      | row ty s l=>rfl
      | ro ty c=>exact renL_lt hl c h7
      | arg s l=>rfl
      | mapo ks vs l=>rfl
      | raw o=>rfl
      | dead=>rfl)
     (fun i hi=>by
      have h2:=List.getElem?_eq_getElem hi
      rw [nthOf_get h2]
      exact (hfree _ _ (hacc _ (List.getElem_mem hi))).1)
     (fun i oc hi=>by
      obtain ⟨q,h2,rfl,h4,h5,h6,h7⟩:=get i oc hi
      refine ⟨q.2,by rw [h5];exact hacc q (List.mem_of_getElem? h2),?_⟩
      obtain ⟨a,o⟩:=q
      cases o with
      | cells ty c =>
       have hb:=renL_back hq c h7
       have:=View.own (m:=nthOf acc) ty (renL (fun i=>idxOf i 0 acc) c)
       rw [hb] at this
       exact this
      | mapo ks vs l=>exact .mapo ks vs l
      | raw o=>exact .raw o
      | row ty s l =>
       exact .row ty s l
      | ro ty c =>
       have hb:=renL_back hq c h7
       exact .reads (.inr (by rw [hb]))
      | arg s l=>exact .reads (.inr rfl)
      | dead=>cases h4)
     (fun i j oc oc' hi hj hij _=>by
      obtain ⟨q,_,_,_,h5,h6,_⟩:=get i oc hi
      obtain ⟨q',_,_,_,h5',h6',_⟩:=get j oc' hj
      intro e
      rw [h5,h5'] at e
      exact hij (by rw [← h6,← h6',e]))
     (fun i oc hi hw=>ownChk_look hw ho hi)
    rw [hargs] at this
    exact this
end
end Go.Proofs.Ytlfkfajodnkkhaa.Ax
namespace Go.Proofs.Ytlfkfajodnkkhaa.Ax
open Go Go.RowKit Go.Proofs.YtlfkfajodnkkhaaW.PrintWords
set_option linter.unusedVariables false
set_option linter.unusedSimpArgs false
theorem flat_int (k:IntKind) (l:List Int):flat [.int k] l=l.map (Value.int k):=by
 show ((l.map fun x:Int=>[Value.int k x]).flatten)=_
 induction l with
 | nil=>rfl
 | cons x l ih=>simp [ih]
theorem row_of_R {k:IntKind} {e:Nat} {w:World} {base:Nat} {ok:Nat→Prop} {v:Value} {l:List Int} (h:Kd.R (Kd.int k) e w base ok v l) :
 ∃ L:Loc,(∀ (ρ:Rho) id,ρ id=L→den ρ (.all id)=v)∧(∀ ρ,OK ρ w L (.row e [.int k] l))∧(L.nil=false→base≤L.blk):=by
 obtain ⟨_,inner,⟨h1,h2⟩,hr1,hr2⟩:=h
 have hi:inner=flat [.int k] l:=by
  rw [flat_int]
  apply List.ext_getElem?
  intro j
  rw [List.getElem?_map]
  cases hj:l[j]? with
  | none =>
   have:l.length≤j:=List.getElem?_eq_none_iff.1 hj
   have hlen:inner.length=l.length * 1:=hr1
   rw [List.getElem?_eq_none (by omega)];rfl
  | some p =>
   have hm:(inner.drop (j * 1)).take 1=[Value.int k p]:=hr2 j p hj
   have hlt:j<l.length:=(List.getElem?_eq_some_iff.1 hj).1
   have hlen:inner.length=l.length * 1:=hr1
   rw [Nat.mul_one] at hm
   have h0:((inner.drop j).take 1)[0]? = some (Value.int k p):=by rw [hm];rfl
   rw [List.getElem?_take_of_lt (by omega),List.getElem?_drop,Nat.add_zero] at h0
   rw [h0];rfl
 rcases h2 with ⟨rfl,hn⟩|⟨g,cap,cur,rfl,hg,hh,hle,hm,hs,ht⟩
 · refine ⟨⟨0,0,0,0,true,none⟩,fun ρ id hid=>by simp only [den,hid];rfl,fun ρ=>⟨hn.symm,.inl ⟨rfl,List.length_eq_zero_iff.1 hn,rfl,rfl⟩⟩,fun h=>by cases h⟩
 · refine ⟨⟨g,0,l.length,cap,false,none⟩,fun ρ id hid=>by simp only [den,hid];rfl,fun ρ=>⟨rfl,.inr ⟨rfl,rfl,hle,cur,hh,hs,?_⟩⟩,fun _=>hg⟩
   rw [← hi];exact ht
theorem C_of_row {k:IntKind} {e:Nat} {w:World} {L:Loc} {l:List Int} {ρ:Rho} (h:OK ρ w L (.row e [.int k] l)) (hl:l.length≤9223372036854775807) :
 ∃ A c,(∀ (ρ':Rho) id,ρ' id=L→den ρ' (.all id) = .slice A l.length c)∧l.length≤c∧Kd.C (Kd.int k) w A l.length l:=by
 obtain ⟨hL,⟨hn,hl0,hc⟩|⟨hn,ho,hle,arr,hh,hs,ht⟩⟩:=h
 · have hl0:l=([]:List Int):=hl0
   subst hl0
   exact ⟨none,0,fun ρ' id hid=>by simp only [den,hid,hn,hc.1,hc.2];rfl,Nat.zero_le _,rfl,by simp,fun h=>by simp at h⟩
 · refine ⟨some ⟨L.blk,L.off,none⟩,L.cap,fun ρ' id hid=>by simp only [den,hid,hn];rw [hL];rfl,hle,rfl,hl,fun _=>⟨_,rfl,fun j p hp=>⟨[Value.int k p],rfl,rfl,fun i u hu=>?_⟩⟩⟩
   have hi:i=0:=by
    cases i with
    | zero=>rfl
    | succ i=>simp at hu
   subst hi
   simp at hu
   subst hu
   have ha:(⟨L.blk,L.off,none⟩:Addr).add (j * 1+0)=⟨L.blk,j,none⟩:=by
    unfold Addr.add
    split
    · rename_i h0;rw [ho];congr 1;omega
    · rw [ho];simp
   show w.cell? ((⟨L.blk,L.off,none⟩:Addr).add (j * 1+0))=_
   rw [ha,blk_cell hh j]
   have hj:j<l.length:=(List.getElem?_eq_some_iff.1 hp).1
   have ht':arr.toList.take (l.length * 1)=l.map (Value.int k):=by rw [← flat_int];exact ht
   have h1:(arr.toList.take (l.length * 1))[j]? = some (Value.int k p):=by
    rw [ht',List.getElem?_map,hp];rfl
   rw [List.getElem?_take_of_lt (by omega)] at h1
   simpa using h1
abbrev numS (b:Bool) (i:Nat):SV:=.agg [.v (.bool b),.all i]
def okLen (l:List Int):Bool:=Nat.ble l.length 9223372036854775807
def rowOf (i:Nat) (k:List Int→Rd Out):Rd Out:=.obj i fun o=>match o with
 | .row _ [.int .i64] l=>.br (okLen l) (k l) .fail
 | _=>.fail
theorem rowOf_run {i:Nat} {k:List Int→Rd Out} {h:Hp} {out:Out} {ids:List Nat} (hr:(rowOf i k).run h=some (out,ids)):∃ (e:Nat) (l:List Int) (ids':List Nat),look h i=some (.row e [.int .i64] l)∧l.length≤9223372036854775807∧(k l).run h=some (out,ids'):=by
 unfold rowOf at hr
 simp only [Rd.run] at hr
 cases ho:look h i with
 | none=>rw [ho] at hr;cases hr
 | some o =>
  rw [ho] at hr
  simp only [Option.map_eq_some_iff] at hr
  obtain ⟨⟨a,l'⟩,h1,h2⟩:=hr
  cases h2
  cases o with
  | row e s l =>
   match s,l,h1 with
   | [.int .i64],l,h1 =>
    simp only [Rd.run] at h1
    cases hb:okLen l with
    | false=>rw [hb] at h1;cases h1
    | true =>
     rw [hb] at h1
     exact ⟨e,l,l',rfl,Nat.le_of_ble_eq_true hb,h1⟩
  | _=>cases h1
theorem gives_num {P : Program} {B : Nat → Prop} {f : FuncId} {fn : Func} (hf : P.funcs[f]? = some fn) (hname : (fn.name == "runtime.NumGoroutine") = false) (hbody : fn.body.isSome = true) {args : Array Value} {ρ : Rho} {h : Hp} {w : World} {lo : Nat} {b : Bool} {l : List Int} {e : Nat}
 (hr:HR B ρ h w) (hfr:HFree lo (lo+wide) h) (up:∀ b,w.heap.size≤b→B b)
 (hc:Calls P f args w fun x w'=>∃ v:Value,x = .returned (.agg #[.bool b,v])∧Kd.R (Kd.int .i64) e w' w.heap.size (fun _=>True) v l∧Below w.heap.size w w') :
 CallGives P f args w fun v w'=>∃ ρ',Made B ρ h w lo (lo+wide) ⟨numS b lo,[(lo,.row e [.int .i64] l)]⟩ ρ' v w':=by
 obtain ⟨c0,hbody⟩:=Option.isSome_iff_exists.1 hbody
 refine .inl ⟨run_callFunc_enter' hf hname hbody _ _,hc.mono ?_⟩
 rintro x w' ⟨v,rfl,hR,hb⟩
 obtain ⟨L,h1,h2,h3⟩:=row_of_R hR
 have m:=made_new (s:=numS b lo) (o:=.row e [.int .i64] l) (L:=L) hr hfr (show lo<lo+wide by unfold wide;omega) up (Keeps.of_below hb up) (fun k hk=>hb.block k hk) rfl h3 (h2 _)
 have hv:den (setRho ρ lo L) (numS b lo) = .agg #[.bool b,v]:=by
  simp only [numS,den,denL]
  have:=h1 (setRho ρ lo L) lo (setRho_same _ _ _)
  simp only [den] at this
  rw [this]
 rw [hv] at m
 exact ⟨_,rfl,_,m⟩
theorem gives_plain {P : Program} {B : Nat → Prop} {f : FuncId} {fn : Func} (hf : P.funcs[f]? = some fn) (hname : (fn.name == "runtime.NumGoroutine") = false) (hbody : fn.body.isSome = true) {args : Array Value} {ρ : Rho} {h : Hp} {w : World} {lo : Nat} {v : Value}
 (hr:HR B ρ h w) (up:∀ b,w.heap.size≤b→B b) (hc:Calls P f args w fun x w'=>x = .returned v∧Below w.heap.size w w') :
 CallGives P f args w fun v' w'=>∃ ρ',Made B ρ h w lo (lo+wide) ⟨.v v,[]⟩ ρ' v' w':=by
 obtain ⟨c0,hbody⟩:=Option.isSome_iff_exists.1 hbody
 refine .inl ⟨run_callFunc_enter' hf hname hbody _ _,hc.mono ?_⟩
 rintro x w' ⟨rfl,hb⟩
 exact ⟨_,rfl,ρ,rfl,fun _ _=>rfl,hr.keep hb.size fun i o ho hd hn=>hb.block _ ((hr.ok i o ho).lt hd hn),Keeps.of_below hb up⟩
theorem gives_same {P : Program} {B : Nat → Prop} {f : FuncId} {fn : Func} (hf : P.funcs[f]? = some fn) (hname : (fn.name == "runtime.NumGoroutine") = false) (hbody : fn.body.isSome = true) {args : Array Value} {ρ : Rho} {h : Hp} {w : World} {lo : Nat} {s : SV}
 (hr:HR B ρ h w) (up:∀ b,w.heap.size≤b→B b) (hc:Calls P f args w fun x w'=>x = .returned (den ρ s)∧Below w.heap.size w w') :
 CallGives P f args w fun v' w'=>∃ ρ',Made B ρ h w lo (lo+wide) ⟨s,[]⟩ ρ' v' w':=by
 obtain ⟨c0,hbody⟩:=Option.isSome_iff_exists.1 hbody
 refine .inl ⟨run_callFunc_enter' hf hname hbody _ _,hc.mono ?_⟩
 rintro x w' ⟨rfl,hb⟩
 exact ⟨_,rfl,ρ,rfl,fun _ _=>rfl,hr.keep hb.size fun i o ho hd hn=>hb.block _ ((hr.ok i o ho).lt hd hn),Keeps.of_below hb up⟩
theorem calls_of_ev {P : Program} {C : FuncId → Option Con} {cn : Nat → St → Option St} {F : Nat} {f : FuncId} {fn : Func} {c0 : Code} (hm : P.follows .mixedOrders = true) (hf : P.funcs[f]? = some fn) (hname : (fn.name == "runtime.NumGoroutine") = false) (hbody : fn.body = some c0)
 (hC:∀ B' g φ,C g=some φ→ConOk P B' g φ) (hcn:∀ B' (w:World),CnOk cn B' (Base.of w) fn.ntmps) {args:List SV} {r:SV} (hev:evFn P C cn F fn args [] 0 K1=some r) (ha:ltL 0 args=true) (hfa:freeL 0 wide args=true) (hr:r.lt 0=true) (ρ:Rho) (w:World) :
 Calls P f (denL ρ args).toArray w fun e w'=>e = .returned (den ρ r)∧Below w.heap.size w w':=by
 have hc:∀ B,ConOk P B f (fun args' _=>Rd.br (ltL 0 args') (Rd.opt (evFn P C cn F fn args' [] 0 K1) fun r'=>.ret ⟨r',[]⟩) .fail):=con_pure hm hf hname hbody hC hcn fun args' lo h out ids hrun=>by
  cases hl:ltL 0 args' with
  | false=>rw [hl] at hrun;cases hrun
  | true =>
   rw [hl] at hrun
   cases he:evFn P C cn F fn args' [] 0 K1 with
   | none=>rw [he] at hrun;cases hrun
   | some r'=>rw [he] at hrun;cases hrun;exact ⟨rfl,rfl,rfl⟩
 refine calls_of_con hf hname hbody hc (args:=args) (out:=⟨r,[]⟩) (ids:=[]) ?_ hfa hr ρ w
 show (Rd.br (ltL 0 args) (Rd.opt (evFn P C cn F fn args [] 0 K1) fun r'=>Rd.ret (Out.mk r' [])) Rd.fail).run []=some (Out.mk r [],[])
 rw [ha,hev];rfl
end Go.Proofs.Ytlfkfajodnkkhaa.Ax
namespace Go.Proofs.Ytlfkfajodnkkhaa.Ax
open Go Go.RowKit Go.Proofs.YtlfkfajodnkkhaaW.PrintWords
set_option linter.unusedVariables false
set_option linter.unusedSimpArgs false
mutual
theorem ren_lt0 (m:Nat→Nat):∀ s:SV,s.lt 0=true→ren m s=s
 | .v _,_=>rfl
 | .ptr id _,h=>absurd (blt_lt h) (Nat.not_lt_zero _)
 | .elt id _ _ _,h=>absurd (blt_lt h) (Nat.not_lt_zero _)
 | .slc id _ _ _ _,h=>absurd (blt_lt h) (Nat.not_lt_zero _)
 | .all id,h=>absurd (blt_lt h) (Nat.not_lt_zero _)
 | .map id,h=>absurd (blt_lt h) (Nat.not_lt_zero _)
 | .fn _ fi ca,h=>by
  simp only [SV.lt,Bool.and_eq_true] at h
  simp only [ren];rw [renL_lt0 m fi h.1,renL_lt0 m ca h.2]
 | .agg l,h=>by simp only [ren];rw [renL_lt0 m l h]
 | .tup l,h=>by simp only [ren];rw [renL_lt0 m l h]
theorem renL_lt0 (m:Nat→Nat):∀ l:List SV,ltL 0 l=true→renL m l=l
 | [],_=>rfl
 | s :: l,h=>by
  simp only [ltL,Bool.and_eq_true] at h
  simp only [renL];rw [ren_lt0 m s h.1,renL_lt0 m l h.2]
end
section
variable {P:Program} {C:FuncId→Option Con} {cn:Nat→St→Option St} {F:Nat} {B:Nat→Prop} {f:FuncId} {fn:Func} {ρ:Rho} {h:Hp} {w:World} {lo:Nat}
end
theorem arg_of_C {α:Type} {d:Kd α} {s:List Sc} {f:α→TT s} (hd:∀ w x c,d.K w x c→c=enc s (f x)) (hsz:d.sz=s.length) (hs0:0<s.length) {w:World} {A:Option Addr} {c:Nat} {l:List α} (h:Kd.C d w A l.length l) (hc:l.length≤c) (hl:l≠[]) :
 ∃ L:Loc,L.nil=false∧L.len=l.length∧L.cap=c∧A=some ⟨L.blk,L.off,none⟩∧(∀ ρ,OK ρ w L (.arg s (l.map f))):=by
 have hpos:0<l.length:=by cases l with|nil=>exact absurd rfl hl|cons=>simp
 obtain ⟨h1,h2,h3⟩:=h
 obtain ⟨ad,rfl,hcell⟩:=h3 hpos
 have cells:∀ j p,l[j]? = some p→∀ i u,(enc s (f p))[i]? = some u→w.cell? (ad.add (j * s.length+i))=some u:=by
  intro j p hp i u hu
  obtain ⟨cs,k1,k2,k3⟩:=hcell j p hp
  have:=k3 i u (by rw [hd w p cs k2];exact hu)
  rwa [hsz] at this
 obtain ⟨p0,hp0⟩:∃ p0,l[0]? = some p0:=⟨_,List.getElem?_eq_getElem hpos⟩
 obtain ⟨u0,hu0⟩:∃ u0,(enc s (f p0))[0]? = some u0:=⟨_,List.getElem?_eq_getElem (by rw [enc_length];exact hs0)⟩
 have c0:=cells 0 p0 hp0 0 u0 hu0
 have hz:ad.add (0 * s.length+0)=ad:=by unfold Addr.add;rw [if_pos (by omega)]
 rw [hz] at c0
 have hsp:ad.spot=none∧ad.block<w.heap.size:=by
  unfold World.cell? at c0
  cases hb:w.heap[ad.block]? with
  | none=>rw [hb] at c0;cases c0
  | some o =>
   refine ⟨?_,(Array.getElem?_eq_some_iff.1 hb).1⟩
   rw [hb] at c0
   cases o with
   | cells cc ty fr =>
    simp only at c0
    cases hs:ad.spot with
    | none=>rfl
    | some z=>rw [hs] at c0;simp at c0
   | _=>cases c0
 have hadd:∀ n,ad.add n=⟨ad.block,ad.off+n,none⟩:=by
  intro n
  unfold Addr.add
  split
  · rename_i e;subst e;cases ad;simp at hsp;simp [hsp.1]
  · rfl
 refine ⟨⟨ad.block,ad.off,l.length,c,false,none⟩,rfl,rfl,rfl,?_,fun ρ=>⟨by simp,.inr ⟨rfl,hsp.2,by simp;exact hc,fun j v hv=>?_⟩⟩⟩
 · cases ad;simp at hsp;simp [hsp.1]
 · -- the flat cells
   have hfl:∀ (l:List α) (j:Nat) (v:Value),(flat s (l.map f))[j]? = some v→∃ q p,l[q]? = some p∧(enc s (f p))[j - q * s.length]? = some v∧q * s.length≤j:=by
    intro l
    induction l with
    | nil=>intro j v hv;simp [flat] at hv
    | cons x l ih =>
     intro j v hv
     simp only [flat,List.map_cons,List.flatten_cons] at hv ih
     by_cases hj:j<s.length
     · rw [List.getElem?_append_left (by rw [enc_length];exact hj)] at hv
       exact ⟨0,x,rfl,by simpa using hv,by omega⟩
     · rw [List.getElem?_append_right (by rw [enc_length];omega),enc_length] at hv
       obtain ⟨q,p,k1,k2,k3⟩:=ih (j - s.length) v hv
       refine ⟨q+1,p,by simpa using k1,?_,by rw [Nat.succ_mul];omega⟩
       rw [Nat.succ_mul,show j - (q * s.length+s.length)=j - s.length - q * s.length by omega]
       exact k2
   obtain ⟨q,p,k1,k2,k3⟩:=hfl l j v hv
   have:=cells q p k1 _ v k2
   rw [show q * s.length+(j - q * s.length)=j by omega,hadd] at this
   exact this
end Go.Proofs.Ytlfkfajodnkkhaa.Ax
namespace Go.Proofs.Ytlfkfajodnkkhaa.Ax
open Go Go.RowKit Go.Proofs.YtlfkfajodnkkhaaW.PrintWords
set_option linter.unusedVariables false
set_option linter.unusedSimpArgs false
theorem row_of_C {α:Type} {d:Kd α} {s:List Sc} {f:α→TT s} (hd:∀ w x c,d.K w x c→c=enc s (f x)) (hsz:d.sz=s.length) (hs0:0<s.length) {w:World} {A:Option Addr} {c:Nat} {l:List α} (h:Kd.C d w A l.length l) (hc:l.length≤c) :
 ∃ L:Loc,(∀ (ρ:Rho) id,ρ id=L→den ρ (.all id) = .slice A l.length c)∧(∀ ρ,OK ρ w L (.arg s (l.map f))):=by
 by_cases hl:l=[]
 · subst hl
   exact ⟨⟨0,0,0,c,true,A⟩,fun ρ id hid=>by simp only [den,hid,if_true];rfl,fun ρ=>⟨rfl,.inl ⟨rfl,rfl⟩⟩⟩
 · obtain ⟨L,h1,h2,h3,rfl,h5⟩:=arg_of_C hd hsz hs0 h hc hl
   exact ⟨L,fun ρ id hid=>by simp only [den,hid,h1,h2,h3,Bool.false_eq_true,if_false],h5⟩
section
variable {P:Program} {C:FuncId→Option Con} {cn:Nat→St→Option St} {F:Nat} {f:FuncId} {fn:Func}
theorem calls_of_X (hm:P.follows .mixedOrders=true) (hf:P.funcs[f]? = some fn) (hC:∀ B' g φ,C g=some φ→ConOk P B' g φ) (hcn:∀ B' (w:World),CnOk cn B' (Base.of w) fn.ntmps) {lin:List Pc} {x:PT lin} {b:Bool}
 (hev:evX P C cn F fn lin [.one .bool] x=some (b,())) (ρ:Rho) (w:World) (hok:InOk w 0 (cntP lin 0) (hcA lin x 0) ρ) :
 Calls P f (denL ρ (encA lin x 0)).toArray w fun e w'=>e = .returned (.bool b)∧Below w.heap.size w w':=by
 have hr:HR (fun b=>w.heap.size≤b) ρ (hcA lin x 0) w:=by
  refine ⟨fun i oc hi=>(hok i oc hi).2.2.2.2,fun i oc hi hw=>?_,fun i oc hi hs hn=>?_,fun i j oc oc' hi hj hw=>?_⟩
  · have:=(hok i oc hi).2.2.1
    cases oc<;>first|(cases hw;done)|(cases this;done)
  · have:=(hok i oc hi).2.2.2.2.lt (fun e=>by subst e;cases hs) hn
    show ¬ w.heap.size≤_
    omega
  · have:=(hok i oc hi).2.2.1
    cases oc<;>first|(cases hw;done)|(cases this;done)
 refine (evFn_sound hm hf (hC _) hev ρ w (Base.of w) rfl (fun i hi=>absurd hi (Nat.not_lt_zero _)) (Nat.zero_le _) (hcn _ w) hr (fun i oc hi=>⟨(hok i oc hi).2.1,(hok i oc hi).2.2.2.1⟩) (encA_lt lin x 0 _ (Nat.le_refl _)) (fun b hb=>hb)).mono ?_
 rintro e w' ⟨ρ',s',h',rfl,hk,_,hks,_⟩
 obtain ⟨vs,hvs,rfl⟩:=KX_res hk
 refine ⟨?_,hks.below (fun b hb=>hb)⟩
 match vs,hvs with
 | [v],hvs =>
  simp only [decR] at hvs
  cases hd:decR1 (.one .bool) v h' with
  | none=>rw [hd] at hvs;cases hvs
  | some z =>
   rw [hd] at hvs
   cases hvs
   rw [decS_den ρ' hd];rfl
 | v :: v' :: vs,hvs =>
  simp only [decR] at hvs
  split at hvs<;>cases hvs
end
end Go.Proofs.Ytlfkfajodnkkhaa.Ax
namespace Go.Proofs.Ytlfkfajodnkkhaa.Sh
open Go Go.RowKit Go.Proofs.YtlfkfajodnkkhaaW.PrintWords Go.Proofs.Ytlfkfajodnkkhaa.Ax
set_option linter.unusedVariables false
set_option linter.unusedSimpArgs false
theorem mixed:Try.prog.follows .mixedOrders=true:=by kernel_rfl
def cn0:Nat→St→Option St:=fun _ σ=>some σ
theorem cn0_ok (B':Nat→Prop) (w:Base) (n:Nat):CnOk cn0 B' w n:=fun k σ σ' h=>by cases h;exact ⟨fun h=>h,fun ρ a w hR=>⟨ρ,hR⟩⟩
abbrev vi (n:Int):SV:=.v (.int .i64 n)
abbrev IT:IntKind:=.i64
abbrev stP:List Sc:=[.int .i64,.int .i64,.int .u64]
abbrev HP:=Int × Int × Int
abbrev qInt:Pc:=.one (.int .i64)
abbrev qPart:Pc:=.agg stP
abbrev fnC:SV:=.fn (.func 39) [] []
def cmpR (p q:Int):Int:=bif decide (q<p) then -1 else bif decide (p<q) then 1 else 0
theorem cmp_tree (x y:HP):evX Try.prog (fun _=>none) cn0 10 Try.f39 [qPart,qPart] [qInt] (x,y,()) =
 sel (decide (y.2.2<x.2.2)) (some ((-1:Int),())) (sel (decide (x.2.2<y.2.2)) (some ((1:Int),())) (some ((0:Int),()))):=by kernel_rfl
def cmpV:HP→HP→Int:=fun x y=>cmpR x.2.2 y.2.2
theorem cmp_one (x y:HP):sel (decide (y.2.2<x.2.2)) (some ((-1:Int),())) (sel (decide (x.2.2<y.2.2)) (some ((1:Int),())) (some ((0:Int),())))=some (cmpV x y,()):=by
 unfold cmpV cmpR
 cases decide (y.2.2<x.2.2)<;>cases decide (x.2.2<y.2.2)<;>rfl
noncomputable def cCmp:Con:=conX [qPart,qPart] [qInt] fun x=>some (cmpV x.1 x.2.1,())
theorem none_ok:∀ B' g φ,(fun _:FuncId=>(none:Option Con)) g=some φ→ConOk Try.prog B' g φ:=by intro B' g φ h;cases h
theorem toldP {f : FuncId} {fn : Func} {C : FuncId → Option Con} (hC : ∀ B' g φ, C g = some φ → ConOk Try.prog B' g φ) (hf : Try.prog.funcs[f]? = some fn) (hname : (fn.name == "runtime.NumGoroutine") = false) (hbody : fn.body.isSome = true) {lin lout : List Pc} (V : PT lin → Option (PT lout))
 (hV:∀ x y,V x=some y→evX Try.prog C cn0 40 fn lin lout x=some y) (h1:rowsP lout≤1) (B:Nat→Prop):ConOk Try.prog B f (conX lin lout V) :=
 conX_ok mixed hf hname hbody hC (fun B' w=>cn0_ok B' w _) lin lout h1 (fun _=>40) V hV B
theorem cCmp_ok (B):ConOk Try.prog B 39 cCmp :=
 toldP (lin:=[qPart,qPart]) (lout:=[qInt]) none_ok Try.func39 (by kernel_rfl) (by kernel_rfl) (fun x=>some (cmpV x.1 x.2.1,())) (fun x y h=>by
  obtain ⟨p,q,u⟩:=x
  exact (cmp_tree p q).trans ((cmp_one p q).trans h)) (by decide) B
noncomputable def C0:FuncId→Option Con
 | 39=>some cCmp
 | _=>none
theorem C0_ok:∀ B' g φ,C0 g=some φ→ConOk Try.prog B' g φ:=by
 intro B' g φ h
 unfold C0 at h
 split at h
 · cases h;exact cCmp_ok B'
 · cases h
def idxP {α β:Type} (l:List α) (i:Int) (x:Option β):Option β:=sel (decide (0≤i)) (sel (decide (i<(l.length:Int))) (sel (decide (i.toNat<l.length)) x none) none) none
def rA (l:List HP) (i:Int):HP:=List.getD l i.toNat (0,0,0)
def rowH (l:List HP):Hp:=[(0,.row 92 stP l)]
def endR (l:List HP):Option (SV × Hp):=some (.tup [],rowH l)
def sw (l:List HP) (i j:Int):List HP:=(l.set i.toNat (rA l j)).set j.toNat (rA l i)
def T59:Nat→Option (List Nat × List (Nat × TypeId × List Sc))
 | 1=>some ([0,1,2,3,10],[])
 | _=>none
noncomputable def L59 (F kk:Nat) (l:List HP) (a b n i:Int):Option (SV × Hp):=loopAt (eff Try.prog C0) Try.f80.ntmps (cnRow 1 T59) F Try.prog Try.f80 (KG (gcSt [0] 1) 1) [.R,.D] kk
 ⟨[(0,.all 0),(1,vi a),(2,vi b),(3,vi n),(10,vi i)],rowH l,2⟩
theorem L59_eq (F kk:Nat) (l:List HP) (a b n i:Int):L59 F (kk+1) l a b n i =
 sel (decide (i<n)) (idxP l (IT.wrap (b+i)) (idxP l (IT.wrap (a+i)) (idxP l (IT.wrap (a+i)) (idxP (l.set (IT.wrap (a+i)).toNat (rA l (IT.wrap (b+i)))) (IT.wrap (b+i)) (L59 F kk (sw l (IT.wrap (a+i)) (IT.wrap (b+i))) a b n (IT.wrap (i+1))))))) (endR l):=by kernel_rfl
noncomputable def ev59 (F:Nat) (l:List HP) (a b n:Int):Option (SV × Hp):=evFn Try.prog C0 (cnRow 1 T59) F Try.f80 [.all 0,vi a,vi b,vi n,fnC] (rowH l) 1 (KG (gcSt [0] 1) 1)
theorem ev59_eq (F:Nat) (l:List HP) (a b n:Int):ev59 F l a b n=L59 F F l a b n 0:=by kernel_rfl
end Go.Proofs.Ytlfkfajodnkkhaa.Sh
namespace Go.Proofs.Ytlfkfajodnkkhaa.Sh
open Go Go.RowKit Go.Proofs.YtlfkfajodnkkhaaW.PrintWords Go.Proofs.Ytlfkfajodnkkhaa.Ax
set_option linter.unusedVariables false
set_option linter.unusedSimpArgs false
section
variable (E:Oper→(Operand→Option SV)→Nat→Rd Out) (n:Nat) (cn:Nat→St→Option St) (F:Nat)
def rndK {β:Type} (c:Code) (K:Ex→St→Option β) (rec:St→Option β):Ex→St→Option β:=fun e σ'=>match e with
 | .normal=>match cn (key c) σ' with
  | none=>none
  | some σ2=>rec σ2
 | .exit id=>K (.exit id) σ'
 | .ret=>K .ret σ'
def loopIn {β:Type} (P:Program) (fn:Func) (K:SV→Hp→Option β) (p q:List Dir) (ko k:Nat) (σ:St):Option β :=
 match sub p (bodyOf fn) with
 | .loop c=>match sub q c with
  | .loop c2=>iter k (loopF E n cn F c2 (kont E n cn F q c (rndK cn c (kont E n cn F p (bodyOf fn) (finK P fn K)) (iter ko (loopF E n cn F c (kont E n cn F p (bodyOf fn) (finK P fn K))))))) σ
  | _=>none
 | _=>none
end
def rowV (T:List SV→Option (List HP→Bool × List HP)) (p:Nat) (args:List SV) (hc:Hp):Option (Bool × SV × Hp):=match p with
 | 1=>match hc with
  | [(0,.row 92 s l)]=>match castL s stP l with
   | none=>none
   | some l=>match T args with
    | none=>none
    | some f=>some ((f l).1,.tup [],rowH (f l).2)
  | _=>none
 | _=>none
noncomputable abbrev cRow (T:List SV→Option (List HP→Bool × List HP)):Con:=conV (rowV T)
theorem cRow_ok {f : FuncId} {fn : Func} {C : FuncId → Option Con} {T : List SV → Option (List HP → Bool × List HP)} (hf : Try.prog.funcs[f]? = some fn) (hname : (fn.name == "runtime.NumGoroutine") = false) (hbody : fn.body.isSome = true)
 (hC:∀ B' g φ,C g=some φ→ConOk Try.prog B' g φ) (hT:∀ args g l,T args=some g→(g l).1=true→∃ F TT,evFn Try.prog C (cnRow 1 TT) F fn args (rowH l) 1 (KG (gcSt [0] 1) 1)=endR (g l).2) (B:Nat→Prop):ConOk Try.prog B f (cRow T):=by
 refine conV_ok (fn:=fn) (C:=C) mixed hf hname hbody hC (fun p=>gcSt [0] p) (fun p=>gc_GOk p) (fun p args hc r hp' h=>?_) B
 unfold rowV at h
 split at h
 case h_2=>cases h
 split at h
 case h_2=>cases h
 rename_i s l
 split at h
 · cases h
 rename_i l' hl
 obtain ⟨rfl,rfl⟩:=castL_eq hl
 split at h
 · cases h
 rename_i g hg
 simp only [Option.some.injEq,Prod.mk.injEq] at h
 obtain ⟨h1,h2,h3⟩:=h
 obtain ⟨F,TT,he⟩:=hT args g _ hg h1
 exact ⟨F,cnRow 1 TT,fun B' w0 hp=>cnRow_ok hp,by rw [← h2,← h3];exact he⟩
def lenOK (l:List HP):Bool:=Nat.ble l.length 1000
def len' (l:List HP):Int:=(l.length:Int)
def okSw (a b n:Int) (l:List HP):Bool:=decide (0≤a) && (decide (0≤n) && (decide (0≤b) && (decide (a+n≤len' l) && (decide (b+n≤len' l) && lenOK l))))
def swN (l:List HP) (i j:Nat):List HP:=sw l i j
def swapK:Nat→Nat→Nat→List HP→List HP
 | 0,_,_,l=>l
 | n+1,i,j,l=>swapK n (i+1) (j+1) (swN l i j)
def T_sw:List SV→Option (List HP→Bool × List HP)
 | [.all 0,.v (.int .i64 a),.v (.int .i64 b),.v (.int .i64 n),.fn (.func 39) [] []]=>some fun l=>(okSw a b n l,swapK n.toNat a.toNat b.toNat l)
 | _=>none
noncomputable def C1:FuncId→Option Con
 | 80=>some (cRow T_sw)
 | g=>C0 g
abbrev R2:=Option (SV × Hp)
def swapc (l:List HP) (a b n:Int) (k:List HP→R2):R2:=sel (okSw a b n l) (k (swapK n.toNat a.toNat b.toNat l)) none
def T58:Nat→Option (List Nat × List (Nat × TypeId × List Sc))
 | 2=>some ([0,2,4,10,11],[])
 | _=>none
noncomputable def L58 (F kk:Nat) (l:List HP) (m i j:Int):R2:=loopAt (eff Try.prog C1) Try.f77.ntmps (cnRow 1 T58) F Try.prog Try.f77 (KG (gcSt [0] 1) 1) [.R,.R,.L,.D] kk
 ⟨[(0,.all 0),(2,vi m),(4,fnC),(10,vi i),(11,vi j)],rowH l,2⟩
theorem L58_eq (F kk:Nat) (l:List HP) (m i j:Int):L58 F (kk+1) l m i j =
 sel (i != j) (sel (decide (j<i)) (swapc l (IT.wrap (m - i)) m j fun l=>L58 F kk l m (IT.wrap (i - j)) j) (swapc l (IT.wrap (m - i)) (IT.wrap (IT.wrap (m+j) - i)) i fun l=>L58 F kk l m i (IT.wrap (j - i))))
  (swapc l (IT.wrap (m - i)) m i endR):=by kernel_rfl
noncomputable def ev58 (F:Nat) (l:List HP) (a m b:Int):R2:=evFn Try.prog C1 (cnRow 1 T58) F Try.f77 [.all 0,vi a,vi m,vi b,fnC] (rowH l) 1 (KG (gcSt [0] 1) 1)
theorem ev58_eq (F:Nat) (l:List HP) (a m b:Int):ev58 F l a m b=L58 F F l m (IT.wrap (m - a)) (IT.wrap (b - m)):=by kernel_rfl
def swP (l:List HP) (x y:Int) (k:List HP→R2):R2:=idxP l y (idxP l x (idxP l x (idxP (l.set x.toNat (rA l y)) y (k (sw l x y)))))
def T53:Nat→Option (List Nat × List (Nat × TypeId × List Sc))
 | 1=>some ([0,1,2,3,8],[])
 | 4=>some ([0,1,2,3,8,9],[])
 | _=>none
noncomputable def L53 (F kk:Nat) (l:List HP) (a b i:Int):R2:=loopAt (eff Try.prog C0) Try.f69.ntmps (cnRow 1 T53) F Try.prog Try.f69 (KG (gcSt [0] 1) 1) [.R,.D] kk
 ⟨[(0,.all 0),(1,vi a),(2,vi b),(3,fnC),(8,vi i)],rowH l,2⟩
noncomputable def L53i (F ko k:Nat) (l:List HP) (a b i j:Int):R2:=loopIn (eff Try.prog C0) Try.f69.ntmps (cnRow 1 T53) F Try.prog Try.f69 (KG (gcSt [0] 1) 1) [.R,.D] [.R,.L,.D,.R,.D] ko k
 ⟨[(0,.all 0),(1,vi a),(2,vi b),(3,fnC),(8,vi i),(9,vi j)],rowH l,2⟩
theorem L53_eq (F kk:Nat) (l:List HP) (a b i:Int):L53 F (kk+1) l a b i=sel (decide (i<b)) (L53i F kk F l a b i i) (endR l):=by kernel_rfl
theorem L53i_eq (F ko k:Nat) (l:List HP) (a b i j:Int):L53i F ko (k+1) l a b i j =
 sel (decide (a<j)) (idxP l j (idxP l (IT.wrap (j - 1)) (sel (decide (cmpV (rA l j) (rA l (IT.wrap (j - 1)))<0)) (swP l j (IT.wrap (j - 1)) fun l=>L53i F ko k l a b i (IT.wrap (j - 1))) (L53 F ko l a b (IT.wrap (i+1)))))) (L53 F ko l a b (IT.wrap (i+1))):=by kernel_rfl
noncomputable def ev53 (F:Nat) (l:List HP) (a b:Int):R2:=evFn Try.prog C0 (cnRow 1 T53) F Try.f69 [.all 0,vi a,vi b,fnC] (rowH l) 1 (KG (gcSt [0] 1) 1)
theorem ev53_eq (F:Nat) (l:List HP) (a b:Int):ev53 F l a b=L53 F F l a b (IT.wrap (a+1)):=by kernel_rfl
end Go.Proofs.Ytlfkfajodnkkhaa.Sh
namespace Go.Proofs.Ytlfkfajodnkkhaa.Sh
open Go Go.RowKit Go.Proofs.YtlfkfajodnkkhaaW.PrintWords Go.Proofs.Ytlfkfajodnkkhaa.Ax
set_option linter.unusedVariables false
set_option linter.unusedSimpArgs false
def ltP (x y:HP):Prop:=y.2.2<x.2.2∨(y.2.2=x.2.2∧x.1<y.1)
instance (x y:HP):Decidable (ltP x y):=by unfold ltP;infer_instance
def insP (x:HP):List HP→List HP
 | []=>[x]
 | y :: l=>if ltP y x then y :: insP x l else x :: y :: l
def sortP:List HP→List HP
 | []=>[]
 | x :: l=>insP x (sortP l)
def seg (a b:Nat) (l:List HP):List HP:=(l.take b).drop a
def segS (a b:Nat) (l:List HP):List HP:=l.take a ++ (sortP (seg a b l) ++ l.drop b)
def rotL (a m b:Nat) (l:List HP):List HP:=l.take a ++ (seg m b l ++ (seg a m l ++ l.drop b))
def Asc (l:List HP):Prop:=l.Pairwise fun x y=>x.1<y.1
def Srt (l:List HP):Prop:=l.Pairwise ltP
def Dif (l:List HP):Prop:=l.Pairwise fun x y=>x.1≠y.1
def preI (a b:Int) (l:List HP):Prop:=0≤a∧a≤b∧b≤len' l∧l.length≤1000∧Asc (seg a.toNat b.toNat l)
def preM (d:Nat) (a m b:Int) (l:List HP):Prop:=0≤a∧a<m∧m<b∧b≤len' l∧l.length≤1000∧b - a≤2 ^ d∧Dif (seg a.toNat b.toNat l)∧Srt (seg a.toNat m.toNat l)∧Srt (seg m.toNat b.toNat l)∧(∀ x∈seg a.toNat m.toNat l,∀ y∈seg m.toNat b.toNat l,x.1<y.1)
def okRot (a m b:Int) (l:List HP):Bool:=decide (0≤a) && (decide (a<m) && (decide (m<b) && (decide (b≤len' l) && lenOK l)))
def T_rot:List SV→Option (List HP→Bool × List HP)
 | [.all 0,.v (.int .i64 a),.v (.int .i64 m),.v (.int .i64 b),.fn (.func 39) [] []]=>some fun l=>(okRot a m b l,rotL a.toNat m.toNat b.toNat l)
 | _=>none
noncomputable def T_ins:List SV→Option (List HP→Bool × List HP)
 | [.all 0,.v (.int .i64 a),.v (.int .i64 b),.fn (.func 39) [] []]=>some fun l=>(cdec (preI a b l),segS a.toNat b.toNat l)
 | _=>none
noncomputable def T_sym (d:Nat):List SV→Option (List HP→Bool × List HP)
 | [.all 0,.v (.int .i64 a),.v (.int .i64 m),.v (.int .i64 b),.fn (.func 39) [] []]=>some fun l=>(cdec (preM d a m b l),segS a.toNat b.toNat l)
 | _=>none
def rotc (l:List HP) (a m b:Int) (k:List HP→R2):R2:=sel (okRot a m b l) (k (rotL a.toNat m.toNat b.toNat l)) none
noncomputable def insc (l:List HP) (a b:Int) (k:List HP→R2):R2:=sel (cdec (preI a b l)) (k (segS a.toNat b.toNat l)) none
noncomputable def symc (d:Nat) (l:List HP) (a m b:Int) (k:List HP→R2):R2:=sel (cdec (preM d a m b l)) (k (segS a.toNat b.toNat l)) none
noncomputable def C2 (d:Nat):FuncId→Option Con
 | 77=>some (cRow T_rot)
 | 70=>some (cRow (T_sym d))
 | g=>C0 g
def half (i j:Int):Int:=IT.wrap ((IntKind.wrap .u64 (IT.wrap (i+j))).fdiv (2 ^ (min (1:Int).toNat IntKind.u64.bits)))
def T54:Nat→Option (List Nat × List (Nat × TypeId × List Sc))
 | 3=>some ([0,1,4,10,11],[])
 | 9=>some ([0,10,13],[])
 | 15=>some ([0,2,4,14,15],[])
 | 21=>some ([0,14,17],[])
 | 33=>some ([0,1,2,3,4,18,19,20,21,22],[])
 | _=>none
noncomputable abbrev at54 (d F:Nat) (p:List Dir) (kk:Nat) (σ:St):R2:=loopAt (eff Try.prog (C2 d)) Try.f70.ntmps (cnRow 1 T54) F Try.prog Try.f70 (KG (gcSt [0] 1) 1) p kk σ
noncomputable def L54a (d F kk:Nat) (l:List HP) (a i j:Int):R2:=at54 d F [.L,.R,.T,.R,.R,.L,.D] kk ⟨[(0,.all 0),(1,vi a),(4,fnC),(10,vi i),(11,vi j)],rowH l,2⟩
noncomputable def L54b (d F kk:Nat) (l:List HP) (i k:Int):R2:=at54 d F [.L,.R,.T,.R,.R,.R,.L,.R,.D] kk ⟨[(0,.all 0),(10,vi i),(13,vi k)],rowH l,2⟩
noncomputable def L54c (d F kk:Nat) (l:List HP) (m i j:Int):R2:=at54 d F [.R,.L,.R,.T,.R,.R,.L,.D] kk ⟨[(0,.all 0),(2,vi m),(4,fnC),(14,vi i),(15,vi j)],rowH l,2⟩
noncomputable def L54d (d F kk:Nat) (l:List HP) (i k:Int):R2:=at54 d F [.R,.L,.R,.T,.R,.R,.R,.L,.R,.D] kk ⟨[(0,.all 0),(14,vi i),(17,vi k)],rowH l,2⟩
noncomputable def L54e (d F kk:Nat) (l:List HP) (a m b mid n s r p:Int):R2:=at54 d F [.R,.R,.R,.R,.R,.R,.R,.L,.D] kk ⟨[(0,.all 0),(1,vi a),(2,vi m),(3,vi b),(4,fnC),(18,vi mid),(19,vi n),(20,vi s),(21,vi r),(22,vi p)],rowH l,2⟩
theorem L54a_eq (d F kk:Nat) (l:List HP) (a i j:Int):L54a d F (kk+1) l a i j =
 sel (decide (i<j)) (idxP l (half i j) (idxP l a (sel (decide (cmpV (rA l (half i j)) (rA l a)<0)) (L54a d F kk l a (IT.wrap (half i j+1)) j) (L54a d F kk l a i (half i j))))) (L54b d F F l i a):=by kernel_rfl
theorem L54b_eq (d F kk:Nat) (l:List HP) (i k:Int):L54b d F (kk+1) l i k =
 sel (decide (k<IT.wrap (i - 1))) (swP l k (IT.wrap (k+1)) fun l=>L54b d F kk l i (IT.wrap (k+1))) (endR l):=by kernel_rfl
theorem L54c_eq (d F kk:Nat) (l:List HP) (m i j:Int):L54c d F (kk+1) l m i j =
 sel (decide (i<j)) (idxP l m (idxP l (half i j) (sel (!decide (cmpV (rA l m) (rA l (half i j))<0)) (L54c d F kk l m (IT.wrap (half i j+1)) j) (L54c d F kk l m i (half i j))))) (L54d d F F l i m):=by kernel_rfl
theorem L54d_eq (d F kk:Nat) (l:List HP) (i k:Int):L54d d F (kk+1) l i k =
 sel (decide (i<k)) (swP l k (IT.wrap (k - 1)) fun l=>L54d d F kk l i (IT.wrap (k - 1))) (endR l):=by kernel_rfl
noncomputable def t2 (d:Nat) (l:List HP) (mid e b:Int):R2:=sel (decide (mid<e)) (sel (decide (e<b)) (symc d l mid e b endR) (endR l)) (endR l)
noncomputable def t1 (d:Nat) (l:List HP) (a s mid e b:Int):R2:=sel (decide (a<s)) (sel (decide (s<mid)) (symc d l a s mid fun l=>t2 d l mid e b) (t2 d l mid e b)) (t2 d l mid e b)
noncomputable def t0 (d:Nat) (l:List HP) (a s m mid e b:Int):R2:=sel (decide (s<m)) (sel (decide (m<e)) (rotc l s m e fun l=>t1 d l a s mid e b) (t1 d l a s mid e b)) (t1 d l a s mid e b)
theorem L54e_eq (d F kk:Nat) (l:List HP) (a m b mid n s r p:Int):L54e d F (kk+1) l a m b mid n s r p =
 sel (decide (s<r)) (idxP l (IT.wrap (p - half s r)) (idxP l (half s r) (sel (!decide (cmpV (rA l (IT.wrap (p - half s r))) (rA l (half s r))<0)) (L54e d F kk l a m b mid n (IT.wrap (half s r+1)) r p) (L54e d F kk l a m b mid n s (half s r) p))))
  (t0 d l a s m mid (IT.wrap (n - s)) b):=by kernel_rfl
noncomputable def ev54 (d F:Nat) (l:List HP) (a m b:Int):R2:=evFn Try.prog (C2 d) (cnRow 1 T54) F Try.f70 [.all 0,vi a,vi m,vi b,fnC] (rowH l) 1 (KG (gcSt [0] 1) 1)
theorem ev54_eq (d F:Nat) (l:List HP) (a m b:Int):ev54 d F l a m b =
 sel (IT.wrap (m - a) == 1) (L54a d F F l a m b) (sel (IT.wrap (b - m) == 1) (L54c d F F l m a m)
  (sel (decide (half a b<m)) (L54e d F F l a m b (half a b) (IT.wrap (half a b+m)) (IT.wrap (IT.wrap (half a b+m) - b)) (half a b) (IT.wrap (IT.wrap (half a b+m) - 1)))
   (L54e d F F l a m b (half a b) (IT.wrap (half a b+m)) a m (IT.wrap (IT.wrap (half a b+m) - 1))))):=by kernel_rfl
end Go.Proofs.Ytlfkfajodnkkhaa.Sh
namespace Go.Proofs.Ytlfkfajodnkkhaa.Sh
open Go Go.RowKit Go.Proofs.YtlfkfajodnkkhaaW.PrintWords Go.Proofs.Ytlfkfajodnkkhaa.Ax
set_option linter.unusedVariables false
set_option linter.unusedSimpArgs false
noncomputable def C3 (d:Nat):FuncId→Option Con
 | 69=>some (cRow T_ins)
 | 70=>some (cRow (T_sym d))
 | g=>C0 g
def T45:Nat→Option (List Nat × List (Nat × TypeId × List Sc))
 | 2=>some ([0,1,2,6,7,8],[])
 | 7=>some ([0,1,2,6],[])
 | 9=>some ([0,1,2,6,7,8],[])
 | _=>none
noncomputable abbrev fn45:Func:=Try.f56
noncomputable def L45a (d F kk:Nat) (l:List HP) (n bs a b:Int):R2:=loopAt (eff Try.prog (C3 d)) fn45.ntmps (cnRow 1 T45) F Try.prog fn45 (KG (gcSt [0] 1) 1) [.R,.R,.L,.D] kk
 ⟨[(0,.all 0),(1,vi n),(2,fnC),(6,vi bs),(7,vi a),(8,vi b)],rowH l,2⟩
noncomputable def L45b (d F kk:Nat) (l:List HP) (n bs:Int):R2:=loopAt (eff Try.prog (C3 d)) fn45.ntmps (cnRow 1 T45) F Try.prog fn45 (KG (gcSt [0] 1) 1) [.R,.R,.R,.R,.D] kk
 ⟨[(0,.all 0),(1,vi n),(2,fnC),(6,vi bs)],rowH l,2⟩
noncomputable def L45c (d F ko k:Nat) (l:List HP) (n bs a b:Int):R2:=loopIn (eff Try.prog (C3 d)) fn45.ntmps (cnRow 1 T45) F Try.prog fn45 (KG (gcSt [0] 1) 1) [.R,.R,.R,.R,.D] [.R,.D,.R,.L,.D] ko k
 ⟨[(0,.all 0),(1,vi n),(2,fnC),(6,vi bs),(7,vi a),(8,vi b)],rowH l,2⟩
theorem L45a_eq (d F kk:Nat) (l:List HP) (n bs a b:Int):L45a d F (kk+1) l n bs a b =
 sel (decide (b≤n)) (insc l a b fun l=>L45a d F kk l n bs b (IT.wrap (b+bs))) (insc l a n fun l=>L45b d F F l n bs):=by kernel_rfl
theorem L45b_eq (d F kk:Nat) (l:List HP) (n bs:Int):L45b d F (kk+1) l n bs =
 sel (decide (bs<n)) (L45c d F kk F l n bs 0 (IT.wrap (2 * bs))) (endR l):=by kernel_rfl
theorem L45c_eq (d F ko k:Nat) (l:List HP) (n bs a b:Int):L45c d F ko (k+1) l n bs a b =
 sel (decide (b≤n)) (symc d l a (IT.wrap (a+bs)) b fun l=>L45c d F ko k l n bs b (IT.wrap (b+IT.wrap (2 * bs))))
  (sel (decide (IT.wrap (a+bs)<n)) (symc d l a (IT.wrap (a+bs)) n fun l=>L45b d F ko l n (IT.wrap (bs * 2))) (L45b d F ko l n (IT.wrap (bs * 2)))):=by kernel_rfl
noncomputable def ev45 (d F:Nat) (l:List HP) (n:Int):R2:=evFn Try.prog (C3 d) (cnRow 1 T45) F fn45 [.all 0,vi n,fnC] (rowH l) 1 (KG (gcSt [0] 1) 1)
theorem ev45_eq (d F:Nat) (l:List HP) (n:Int):ev45 d F l n=L45a d F F l n 20 0 20:=by kernel_rfl
end Go.Proofs.Ytlfkfajodnkkhaa.Sh
namespace Go.Proofs.Ytlfkfajodnkkhaa.Sh
open Go Go.RowKit Go.Proofs.YtlfkfajodnkkhaaW.PrintWords Go.Proofs.Ytlfkfajodnkkhaa.Ax
set_option linter.unusedVariables false
set_option linter.unusedSimpArgs false
theorem ltP_trans {x y z:HP} (h:ltP x y) (h':ltP y z):ltP x z:=by unfold ltP at *;omega
theorem ltP_asymm {x y:HP} (h:ltP x y):¬ ltP y x:=by unfold ltP at *;omega
theorem ltP_total {x y:HP} (h:x.1≠y.1):ltP x y∨ltP y x:=by unfold ltP;omega
theorem cmp_lt {x y:HP} (h:x.1<y.1):cmpV y x<0↔ltP y x:=by
 unfold cmpV cmpR ltP
 by_cases h1:x.2.2<y.2.2
 · rw [decide_eq_true h1];simp;omega
 · rw [decide_eq_false h1]
   cases decide (y.2.2<x.2.2)<;>simp<;>omega
theorem srt_unique:∀ {l m:List HP},l.Perm m→Srt l→Srt m→l=m
 | [],m,h,_,_=>h.nil_eq
 | x :: l,[],h,_,_=>h.eq_nil
 | x :: l,y :: m,h,h1,h2=>by
  have a:=List.pairwise_cons.1 h1
  have b:=List.pairwise_cons.1 h2
  have hxy:x=y:=by
   have hx:x∈y :: m:=h.mem_iff.1 (by simp)
   have hy:y∈x :: l:=h.mem_iff.2 (by simp)
   rcases List.mem_cons.1 hx with e|hx
   · exact e
   · rcases List.mem_cons.1 hy with e|hy
     · exact e.symm
     · exact absurd (b.1 x hx) (ltP_asymm (a.1 y hy))
  subst hxy
  rw [srt_unique (List.perm_cons x |>.1 h) a.2 b.2]
theorem insP_perm (x:HP):∀ l,(insP x l).Perm (x :: l)
 | []=>List.Perm.refl _
 | y :: l=>by
  unfold insP
  split
  · exact ((insP_perm x l).cons y).trans (List.Perm.swap x y l)
  · exact List.Perm.refl _
theorem sortP_perm:∀ l,(sortP l).Perm l
 | []=>List.Perm.refl _
 | x :: l=>(insP_perm x (sortP l)).trans ((sortP_perm l).cons x)
theorem insP_srt (x:HP):∀ l,Srt l→(∀ y∈l,y.1≠x.1)→Srt (insP x l)
 | [],_,_=>List.pairwise_singleton _ _
 | y :: l,h,hx=>by
  have a:=List.pairwise_cons.1 h
  unfold insP
  split
  · rename_i hy
    refine List.pairwise_cons.2 ⟨fun z hz=>?_,insP_srt x l a.2 fun z hz=>hx z (by simp [hz])⟩
    rcases List.mem_cons.1 ((insP_perm x l).mem_iff.1 hz) with rfl|hz
    · exact hy
    · exact a.1 z hz
  · rename_i hy
    have hxy:ltP x y:=(ltP_total (hx y (by simp))).resolve_left hy
    refine List.pairwise_cons.2 ⟨fun z hz=>?_,h⟩
    rcases List.mem_cons.1 hz with rfl|hz
    · exact hxy
    · exact ltP_trans hxy (a.1 z hz)
theorem Dif.perm {l m:List HP} (h:Dif l) (p:l.Perm m):Dif m:=(p.pairwise_iff (fun h=>Ne.symm h)).1 h
theorem Asc.dif {l:List HP} (h:Asc l):Dif l:=h.imp fun h=>by omega
theorem sortP_srt:∀ l,Dif l→Srt (sortP l)
 | [],_=>List.Pairwise.nil
 | x :: l,h=>by
  have a:=List.pairwise_cons.1 h
  exact insP_srt x _ (sortP_srt l a.2) fun y hy=>Ne.symm (a.1 y ((sortP_perm l).mem_iff.1 hy))
theorem Srt.dif_sort {l m:List HP} (h:Srt l) (p:l.Perm m) (hd:Dif m):l=sortP m:=srt_unique (p.trans (sortP_perm m).symm) h (sortP_srt m hd)
theorem sortP_len (l:List HP):(sortP l).length=l.length:=(sortP_perm l).length_eq
theorem wr {x:Int} (h0 : -1000000000≤x) (h1:x≤1000000000):IT.wrap x=x:=by
 show IntKind.i64.wrap _=_
 rw [IntKind.wrap_i64];omega
theorem half_nat (i j:Nat) (h:i+j≤1000000):half i j=(((i+j) / 2:Nat):Int):=by
 unfold half
 rw [wr (x:=(i:Int)+j) (by omega) (by omega)]
 have h1:IntKind.wrap .u64 ((i:Int)+j)=(i:Int)+j:=by
  rw [IntKind.wrap_u64];omega
 have h2:(2:Int) ^ (min (1:Int).toNat IntKind.u64.bits)=2:=by decide
 rw [h1,h2,Int.fdiv_eq_ediv_of_nonneg _ (by decide),wr (by omega) (by omega)]
 omega
theorem idx_at {β:Type} (l:List HP) (i:Nat) (h:i<l.length) (x:Option β):idxP l i x=x:=by
 unfold idxP
 rw [decide_eq_true (by omega),decide_eq_true (by omega),decide_eq_true (by omega)]
 rfl
theorem rA_at (l:List HP) (i:Nat) (h:i<l.length):rA l i=l[i]:=by
 unfold rA
 simp [List.getD,h]
theorem rA_mid (X:List HP) (x:HP) (Z:List HP) (i:Nat) (h:i=X.length):rA (X ++ x :: Z) i=x:=by
 subst h
 rw [rA_at _ _ (by simp)]
 simp
theorem set_mid (X:List HP) (x y:HP) (Z:List HP) (i:Nat) (h:i=X.length):(X ++ x :: Z).set i y=X ++ y :: Z:=by
 subst h
 rw [List.set_append_right _ _ (Nat.le_refl _),Nat.sub_self];rfl
theorem sw_mid (X Y Z:List HP) (x y:HP) (i j:Nat) (hi:i=X.length) (hj:j=X.length+1+Y.length):sw (X ++ x :: (Y ++ y :: Z)) i j=X ++ y :: (Y ++ x :: Z):=by
 unfold sw
 have hj':j=(X ++ x :: Y).length:=by simp;omega
 have e1:rA (X ++ x :: (Y ++ y :: Z)) (j:Int)=y:=by
  have:=rA_mid (X ++ x :: Y) y Z j hj'
  simpa using this
 rw [e1,rA_mid X x _ i hi,Int.toNat_natCast,Int.toNat_natCast,set_mid X x y _ i hi]
 have:=set_mid (X ++ y :: Y) y x Z j (by simp;omega)
 simpa using this
theorem sw_mid' (X Y Z:List HP) (x y:HP) (i j:Nat) (hi:i=X.length) (hj:j=X.length+1+Y.length):sw (X ++ x :: (Y ++ y :: Z)) j i=X ++ y :: (Y ++ x :: Z):=by
 unfold sw
 have hj':j=(X ++ x :: Y).length:=by simp;omega
 have e1:rA (X ++ x :: (Y ++ y :: Z)) (j:Int)=y:=by
  have:=rA_mid (X ++ x :: Y) y Z j hj'
  simpa using this
 rw [e1,rA_mid X x _ i hi,Int.toNat_natCast,Int.toNat_natCast]
 have:=set_mid (X ++ x :: Y) y x Z j hj'
 rw [show (X ++ x :: (Y ++ y :: Z)).set j x=X ++ x :: (Y ++ x :: Z) by simpa using this,set_mid X x y _ i hi]
theorem swP_at (l:List HP) (x y:Nat) (k:List HP→R2) (hx:x<l.length) (hy:y<l.length):swP l x y k=k (sw l x y):=by
 unfold swP
 rw [idx_at l y hy,idx_at l x hx,idx_at l x hx,idx_at _ y (by simpa using hy)]
theorem swapK_mid:∀ (n:Nat) (X U Y V Z:List HP) (i j:Nat),U.length=n→V.length=n→i=X.length→j=X.length+n+Y.length→swapK n i j (X ++ (U ++ (Y ++ (V ++ Z))))=X ++ (V ++ (Y ++ (U ++ Z)))
 | 0,X,U,Y,V,Z,i,j,hU,hV,hi,hj=>by
  rw [List.length_eq_zero_iff.1 hU,List.length_eq_zero_iff.1 hV];rfl
 | n+1,X,U,Y,V,Z,i,j,hU,hV,hi,hj=>by
  cases U with
  | nil=>simp at hU
  | cons u U =>
  cases V with
  | nil=>simp at hV
  | cons v V =>
  simp only [List.length_cons,Nat.add_right_cancel_iff] at hU hV
  have h1:swN (X ++ ((u :: U) ++ (Y ++ ((v :: V) ++ Z)))) i j=(X ++ [v]) ++ (U ++ ((Y ++ [u]) ++ (V ++ Z))):=by
   have:=sw_mid X (U ++ Y) (V ++ Z) u v i j hi (by simp;omega)
   unfold swN
   simpa using this
  show swapK n (i+1) (j+1) (swN _ i j)=_
  rw [h1,swapK_mid n (X ++ [v]) U (Y ++ [u]) V Z (i+1) (j+1) hU hV (by simp;omega) (by simp;omega)]
  simp
theorem L59_run (F:Nat) (a b:Nat):∀ (n i kk:Nat) (l:List HP),n<kk→a+i+n≤l.length→b+i+n≤l.length→l.length≤1000→L59 F kk l a b (i+n:Nat) i=endR (swapK n (a+i) (b+i) l):=by
 intro n
 induction n with
 | zero =>
  intro i kk l hk _ _ _
  obtain ⟨k,rfl⟩:∃ k,kk=k+1:=⟨kk - 1,by omega⟩
  rw [L59_eq,decide_eq_false (by omega)];rfl
 | succ n ih =>
  intro i kk l hk ha hb hl
  obtain ⟨k,rfl⟩:∃ k,kk=k+1:=⟨kk - 1,by omega⟩
  have e1:IT.wrap ((b:Int)+i)=((b+i:Nat):Int):=by rw [wr (by omega) (by omega)];omega
  have e2:IT.wrap ((a:Int)+i)=((a+i:Nat):Int):=by rw [wr (by omega) (by omega)];omega
  have e3:IT.wrap ((i:Int)+1)=((i+1:Nat):Int):=by rw [wr (by omega) (by omega)];omega
  rw [L59_eq,decide_eq_true (by omega),sel_true,e1,e2,e3,idx_at l _ (by omega),idx_at l _ (by omega),idx_at l _ (by omega),idx_at _ _ (by simp;omega)]
  have hlen:(sw l ((a+i:Nat):Int) ((b+i:Nat):Int)).length=l.length:=by unfold sw;simp
  have:=ih (i+1) k (sw l ((a+i:Nat):Int) ((b+i:Nat):Int)) (by omega) (by omega) (by omega) (by omega)
  rw [show i+1+n=i+(n+1) by omega] at this
  rw [this]
  rfl
theorem cSwap_ok (B):ConOk Try.prog B 80 (cRow T_sw):=by
 refine cRow_ok Try.func80 (by kernel_rfl) (by kernel_rfl) C0_ok (fun args g l h hok=>?_) B
 unfold T_sw at h
 split at h
 case h_2=>cases h
 rename_i a b n
 cases h
 have hok:okSw a b n l=true:=hok
 unfold okSw len' lenOK at hok
 simp only [Bool.and_eq_true,decide_eq_true_eq] at hok
 obtain ⟨h1,h2,h3,h4,h5,h6⟩:=hok
 have h6:=Nat.le_of_ble_eq_true h6
 obtain ⟨a,rfl⟩:=Int.eq_ofNat_of_zero_le h1
 obtain ⟨b,rfl⟩:=Int.eq_ofNat_of_zero_le h3
 obtain ⟨n,rfl⟩:=Int.eq_ofNat_of_zero_le h2
 refine ⟨1001,T59,?_⟩
 have:=L59_run 1001 a b n 0 1001 l (by omega) (by omega) (by omega) h6
 rw [Nat.zero_add] at this
 exact (ev59_eq 1001 l a b n).trans this
theorem C1_ok:∀ B' g φ,C1 g=some φ→ConOk Try.prog B' g φ:=by
 intro B' g φ h
 unfold C1 at h
 split at h
 · cases h;exact cSwap_ok B'
 · exact C0_ok B' _ φ h
end Go.Proofs.Ytlfkfajodnkkhaa.Sh
namespace Go.Proofs.Ytlfkfajodnkkhaa.Sh
open Go Go.RowKit Go.Proofs.YtlfkfajodnkkhaaW.PrintWords Go.Proofs.Ytlfkfajodnkkhaa.Ax
set_option linter.unusedVariables false
set_option linter.unusedSimpArgs false
theorem swapc_at (X U Y V Z:List HP) (n:Nat) (i j:Nat) (k:List HP→R2) (hU:U.length=n) (hV:V.length=n) (hi:i=X.length) (hj:j=X.length+n+Y.length) (hl:(X ++ (U ++ (Y ++ (V ++ Z)))).length≤1000) :
 swapc (X ++ (U ++ (Y ++ (V ++ Z)))) i j n k=k (X ++ (V ++ (Y ++ (U ++ Z)))):=by
 unfold swapc
 have hlen:(X ++ (U ++ (Y ++ (V ++ Z)))).length=X.length+(n+(Y.length+(n+Z.length))):=by simp [hU,hV]
 have hok:okSw i j n (X ++ (U ++ (Y ++ (V ++ Z))))=true:=by
  unfold okSw len' lenOK
  simp only [Bool.and_eq_true,decide_eq_true_eq]
  exact ⟨by omega,by omega,by omega,by omega,by omega,Nat.ble_eq_true_of_le hl⟩
 rw [hok,sel_true,Int.toNat_natCast,Int.toNat_natCast,Int.toNat_natCast,swapK_mid n X U Y V Z i j hU hV hi hj]
theorem bne_ne {x y:Int} (h:x≠y):(x != y)=true:=by simpa using h
theorem L58_run (F:Nat):∀ (s kk:Nat) (X U V Z:List HP) (m i j:Nat),U.length=i→V.length=j→X.length+i=m→0<i→0<j→i+j≤s→s<kk→(X ++ (U ++ (V ++ Z))).length≤1000→
 L58 F kk (X ++ (U ++ (V ++ Z))) m i j=endR (X ++ (V ++ (U ++ Z))):=by
 intro s
 induction s with
 | zero=>intro kk X U V Z m i j _ _ _ hi hj hs;omega
 | succ s ih =>
  intro kk X U V Z m i j hU hV hX hi hj hs hk hl
  obtain ⟨k,rfl⟩:∃ k,kk=k+1:=⟨kk - 1,by omega⟩
  have hlen:(X ++ (U ++ (V ++ Z))).length=X.length+(i+(j+Z.length)):=by simp [hU,hV]
  have e1:IT.wrap ((m:Int) - i)=((m - i:Nat):Int):=by rw [wr (by omega) (by omega)];omega
  rw [L58_eq,e1]
  by_cases hij:i=j
  · subst hij
    rw [show ((i:Int) != (i:Int))=false from by simp,sel_false]
    have:=swapc_at X U [] V Z i (m - i) m endR hU hV (by omega) (by simp;omega) (by simpa using hl)
    simpa using this
  · rw [bne_ne (show (i:Int)≠(j:Int) by omega),sel_true]
    by_cases hlt:j<i
    · rw [decide_eq_true (show (j:Int)<(i:Int) by omega),sel_true]
      have e2:IT.wrap ((i:Int) - j)=((i - j:Nat):Int):=by rw [wr (by omega) (by omega)];omega
      have hsp:U=U.take j ++ U.drop j:=(List.take_append_drop j U).symm
      obtain ⟨U1,U2,rfl,h1⟩:∃ U1 U2,U=U1 ++ U2∧U1.length=j:=⟨_,_,hsp,by rw [List.length_take];omega⟩
      have h2:U2.length=i - j:=by rw [List.length_append] at hU;omega
      have:=swapc_at X U1 U2 V Z j (m - i) m (fun l=>L58 F k l m (IT.wrap ((i:Int) - j)) j) h1 hV (by omega) (by omega) (by simpa using hl)
      rw [show X ++ ((U1 ++ U2) ++ (V ++ Z))=X ++ (U1 ++ (U2 ++ (V ++ Z))) by simp,this,e2]
      have h3:=ih k (X ++ V) U2 U1 Z m (i - j) j h2 h1 (by simp;omega) (by omega) hj (by omega) (by omega) (by simp [h1,h2,hV] at hl ⊢;omega)
      rw [show X ++ (V ++ (U2 ++ (U1 ++ Z)))=(X ++ V) ++ (U2 ++ (U1 ++ Z)) by simp,h3]
      simp
    · rw [decide_eq_false (show ¬ (j:Int)<(i:Int) by omega),sel_false]
      have e2:IT.wrap ((j:Int) - i)=((j - i:Nat):Int):=by rw [wr (by omega) (by omega)];omega
      have e3:IT.wrap (IT.wrap ((m:Int)+j) - i)=((m+j - i:Nat):Int):=by rw [wr (x:=(m:Int)+j) (by omega) (by omega),wr (by omega) (by omega)];omega
      have hsp:V=V.take (j - i) ++ V.drop (j - i):=(List.take_append_drop _ V).symm
      obtain ⟨V1,V2,rfl,h1⟩:∃ V1 V2,V=V1 ++ V2∧V1.length=j - i:=⟨_,_,hsp,by rw [List.length_take];omega⟩
      have h2:V2.length=i:=by rw [List.length_append] at hV;omega
      have:=swapc_at X U V1 V2 Z i (m - i) (m+j - i) (fun l=>L58 F k l m i (IT.wrap ((j:Int) - i))) hU h2 (by omega) (by omega) (by simpa using hl)
      rw [e3,show X ++ (U ++ ((V1 ++ V2) ++ Z))=X ++ (U ++ (V1 ++ (V2 ++ Z))) by simp,this,e2]
      have h3:=ih k X V2 V1 (U ++ Z) m i (j - i) h2 h1 hX hi (by omega) (by omega) (by omega) (by simp [h1,h2,hU] at hl ⊢;omega)
      rw [h3]
      simp
theorem seg_mid (X Y Z:List HP) (a b:Nat) (ha:a=X.length) (hb:b=X.length+Y.length):seg a b (X ++ (Y ++ Z))=Y:=by
 subst ha hb
 unfold seg
 rw [← List.append_assoc,List.take_left' (by simp),List.drop_left' rfl]
theorem split3 (l:List HP) (a b:Nat) (h:a≤b) (hb:b≤l.length):∃ X Y Z,l=X ++ (Y ++ Z)∧X.length=a∧X.length+Y.length=b:=by
 refine ⟨l.take a,(l.take b).drop a,l.drop b,?_,by rw [List.length_take];omega,by rw [List.length_take,List.length_drop,List.length_take];omega⟩
 have:l.take b=l.take a ++ (l.take b).drop a:=by
  have h1:=(List.take_append_drop a (l.take b)).symm
  rwa [List.take_take,Nat.min_eq_left h] at h1
 rw [← List.append_assoc,← this,List.take_append_drop]
theorem split4 (l:List HP) (a m b:Nat) (h:a≤m) (h':m≤b) (hb:b≤l.length):∃ X U V Z,l=X ++ (U ++ (V ++ Z))∧X.length=a∧X.length+U.length=m∧X.length+U.length+V.length=b:=by
 obtain ⟨X,Y,Z,rfl,h1,h2⟩:=split3 l a b (by omega) hb
 refine ⟨X,Y.take (m - a),Y.drop (m - a),Z,?_,h1,by rw [List.length_take];omega,by rw [List.length_take,List.length_drop];omega⟩
 rw [← List.append_assoc (Y.take _),List.take_append_drop]
theorem rotL_mid (X U V Z:List HP) (a m b:Nat) (ha:a=X.length) (hm:m=X.length+U.length) (hb:b=X.length+U.length+V.length):rotL a m b (X ++ (U ++ (V ++ Z)))=X ++ (V ++ (U ++ Z)):=by
 unfold rotL
 rw [seg_mid X U (V ++ Z) a m ha hm]
 have h1:seg m b (X ++ (U ++ (V ++ Z)))=V:=by
  have:=seg_mid (X ++ U) V Z m b (by simpa using hm) (by simpa using hb)
  simpa using this
 have h2:(X ++ (U ++ (V ++ Z))).drop b=Z:=by
  rw [show X ++ (U ++ (V ++ Z))=(X ++ (U ++ V)) ++ Z by simp,List.drop_left' (by simp;omega)]
 rw [h1,h2,List.take_left' ha.symm]
theorem cRot_ok (B):ConOk Try.prog B 77 (cRow T_rot):=by
 refine cRow_ok Try.func77 (by kernel_rfl) (by kernel_rfl) C1_ok (fun args g l h hok=>?_) B
 unfold T_rot at h
 split at h
 case h_2=>cases h
 rename_i a m b
 cases h
 have hok:okRot a m b l=true:=hok
 unfold okRot len' lenOK at hok
 simp only [Bool.and_eq_true,decide_eq_true_eq] at hok
 obtain ⟨h1,h2,h3,h4,h5⟩:=hok
 have h5:=Nat.le_of_ble_eq_true h5
 obtain ⟨a,rfl⟩:=Int.eq_ofNat_of_zero_le h1
 obtain ⟨m,rfl⟩:=Int.eq_ofNat_of_zero_le (show 0≤m by omega)
 obtain ⟨b,rfl⟩:=Int.eq_ofNat_of_zero_le (show 0≤b by omega)
 refine ⟨2002,T58,?_⟩
 obtain ⟨X,U,V,Z,rfl,g1,g2,g3⟩:=split4 l a m b (by omega) (by omega) (by omega)
 have e1:IT.wrap ((m:Int) - a)=((m - a:Nat):Int):=by rw [wr (by omega) (by omega)];omega
 have e2:IT.wrap ((b:Int) - m)=((b - m:Nat):Int):=by rw [wr (by omega) (by omega)];omega
 refine (ev58_eq 2002 _ a m b).trans ?_
 rw [e1,e2,L58_run 2002 2001 2002 X U V Z m (m - a) (b - m) (by omega) (by omega) (by omega) (by omega) (by omega) (by omega) (by omega) h5]
 show _=endR (rotL (a:Int).toNat (m:Int).toNat (b:Int).toNat _)
 rw [Int.toNat_natCast,Int.toNat_natCast,Int.toNat_natCast,rotL_mid X U V Z a m b (by omega) (by omega) (by omega)]
theorem L53i_run (F ko:Nat) (a b i:Nat) (x:HP):∀ (n k:Nat) (X S1 S2 T:List HP),S1.length=n→X.length=a→n<k→(X ++ (S1 ++ (x :: (S2 ++ T)))).length≤1000→Srt (S1 ++ S2)→(∀ y∈S1,y.1<x.1)→(∀ y∈S2,ltP x y)→i≤1000→
 ∃ S,L53i F ko k (X ++ (S1 ++ (x :: (S2 ++ T)))) a b i (a+n:Nat)=L53 F ko (X ++ (S ++ T)) a b (i+1:Nat)∧Srt S∧S.Perm (x :: (S1 ++ S2)):=by
 intro n
 induction n with
 | zero =>
  intro k X S1 S2 T h1 hX hk hl hs hlt hgt hi
  obtain ⟨k,rfl⟩:∃ k',k=k'+1:=⟨k - 1,by omega⟩
  have:S1=[]:=List.length_eq_zero_iff.1 h1
  subst this
  have e3:IT.wrap ((i:Int)+1)=((i+1:Nat):Int):=by rw [wr (by omega) (by omega)];omega
  refine ⟨x :: S2,?_,List.pairwise_cons.2 ⟨hgt,hs⟩,List.Perm.refl _⟩
  rw [L53i_eq,decide_eq_false (by omega),sel_false,e3]
  rfl
 | succ n ih =>
  intro k X S1 S2 T h1 hX hk hl hs hlt hgt hi
  obtain ⟨k,rfl⟩:∃ k',k=k'+1:=⟨k - 1,by omega⟩
  obtain ⟨S0,y,rfl⟩:∃ S0 y,S1=S0 ++ [y]:=by
   rcases List.eq_nil_or_concat S1 with rfl|⟨S0,y,h⟩
   · simp at h1
   · exact ⟨S0,y,by simpa using h⟩
  have h0:S0.length=n:=by simpa using h1
  have hlen:(X ++ ((S0 ++ [y]) ++ (x :: (S2 ++ T)))).length=X.length+(n+1+(1+(S2.length+T.length))):=by simp [h0];omega
  have e1:IT.wrap (((a+(n+1):Nat):Int) - 1)=((a+n:Nat):Int):=by rw [wr (by omega) (by omega)];omega
  have e3:IT.wrap ((i:Int)+1)=((i+1:Nat):Int):=by rw [wr (by omega) (by omega)];omega
  have hx:rA (X ++ ((S0 ++ [y]) ++ (x :: (S2 ++ T)))) ((a+(n+1):Nat):Int)=x:=by
   have:=rA_mid (X ++ (S0 ++ [y])) x (S2 ++ T) (a+(n+1)) (by simp;omega)
   simpa using this
  have hy:rA (X ++ ((S0 ++ [y]) ++ (x :: (S2 ++ T)))) ((a+n:Nat):Int)=y:=by
   have:=rA_mid (X ++ S0) y (x :: (S2 ++ T)) (a+n) (by simp;omega)
   simpa using this
  rw [L53i_eq,decide_eq_true (by omega),sel_true,e1,idx_at _ _ (by omega),idx_at _ _ (by omega),hx,hy,e3]
  have hyx:=hlt y (by simp)
  by_cases hc:ltP x y
  · rw [decide_eq_true ((cmp_lt hyx).2 hc),sel_true,swP_at _ _ _ _ (by omega) (by omega)]
    have hsw:sw (X ++ ((S0 ++ [y]) ++ (x :: (S2 ++ T)))) ((a+(n+1):Nat):Int) ((a+n:Nat):Int)=X ++ (S0 ++ (x :: ((y :: S2) ++ T))):=by
     have:=sw_mid' (X ++ S0) [] (S2 ++ T) y x (a+n) (a+(n+1)) (by simp;omega) (by simp;omega)
     simpa using this
    rw [hsw]
    obtain ⟨S,g1,g2,g3⟩:=ih k X S0 (y :: S2) T h0 hX (by omega) (by simp [h0] at hl ⊢;omega) (by simpa using hs) (fun z hz=>hlt z (by simp [hz])) (fun z hz=>by
     rcases List.mem_cons.1 hz with rfl|hz
     · exact hc
     · exact hgt z hz) hi
    exact ⟨S,g1,g2,g3.trans (by simp)⟩
  · rw [decide_eq_false (fun h=>hc ((cmp_lt hyx).1 h)),sel_false]
    have hyx2:ltP y x:=(ltP_total (by omega)).resolve_right hc
    have hp:=List.pairwise_append.1 hs
    have hp0:=List.pairwise_append.1 hp.1
    refine ⟨(S0 ++ [y]) ++ (x :: S2),by simp,?_,List.perm_middle⟩
    refine List.pairwise_append.2 ⟨hp.1,List.pairwise_cons.2 ⟨hgt,hp.2.1⟩,fun z hz v hv=>?_⟩
    have hzx:ltP z x:=by
     rcases List.mem_append.1 hz with hz|hz
     · exact ltP_trans (hp0.2.2 z hz y (by simp)) hyx2
     · rw [List.mem_singleton.1 hz];exact hyx2
    rcases List.mem_cons.1 hv with rfl|hv
    · exact hzx
    · exact ltP_trans hzx (hgt v hv)
theorem L53_run (F:Nat) (hF:1001≤F) (a b:Nat):∀ (n kk:Nat) (X P R Z:List HP),R.length=n→n<kk→X.length=a→X.length+P.length+R.length=b→(X ++ (sortP P ++ (R ++ Z))).length≤1000→Asc (P ++ R)→
 L53 F kk (X ++ (sortP P ++ (R ++ Z))) a b (a+P.length:Nat)=endR (X ++ (sortP (P ++ R) ++ Z)):=by
 intro n
 induction n with
 | zero =>
  intro kk X P R Z hR hk hX hb hl hA
  obtain ⟨k,rfl⟩:∃ k,kk=k+1:=⟨kk - 1,by omega⟩
  have:R=[]:=List.length_eq_zero_iff.1 hR
  subst this
  rw [L53_eq,decide_eq_false (by simp at hb;omega),sel_false]
  simp
 | succ n ih =>
  intro kk X P R Z hR hk hX hb hl hA
  obtain ⟨k,rfl⟩:∃ k,kk=k+1:=⟨kk - 1,by omega⟩
  cases R with
  | nil=>simp at hR
  | cons x R =>
   have hR':R.length=n:=by simpa using hR
   have hlen:(X ++ (sortP P ++ ((x :: R) ++ Z))).length=X.length+(P.length+(1+n+Z.length)):=by simp [sortP_len,hR'];omega
   have hp:=List.pairwise_append.1 hA
   rw [L53_eq,decide_eq_true (by simp at hb;omega),sel_true]
   obtain ⟨S,g1,g2,g3⟩:=L53i_run F k a b (a+P.length) x P.length F X (sortP P) [] (R ++ Z) (sortP_len P) hX (by omega) (by simpa using hl) (by simpa using sortP_srt P (Asc.dif hp.1))
    (fun y hy=>hp.2.2 y ((sortP_perm P).mem_iff.1 hy) x (by simp)) (by simp) (by omega)
   have hS:S=sortP (P ++ [x]):=by
    refine g2.dif_sort (g3.trans ?_) (Asc.dif ?_)
    · rw [List.append_nil];exact ((sortP_perm P).cons x).trans (List.perm_append_singleton x P).symm
    · exact List.pairwise_append.2 ⟨hp.1,List.pairwise_singleton _ _,fun y hy z hz=>hp.2.2 y hy z (by rw [List.mem_singleton.1 hz];simp)⟩
   rw [show X ++ (sortP P ++ ((x :: R) ++ Z))=X ++ (sortP P ++ (x :: ([] ++ (R ++ Z)))) by simp,g1,hS]
   have:=ih k X (P ++ [x]) R Z hR' (by omega) hX (by simp at hb ⊢;omega) (by simp [sortP_len] at hl ⊢;omega) (by simpa using hA)
   rw [show (a+P.length+1:Nat)=a+(P ++ [x]).length by simp;omega,this]
   simp
theorem segS_mid (X Y Z:List HP) (a b:Nat) (ha:a=X.length) (hb:b=X.length+Y.length):segS a b (X ++ (Y ++ Z))=X ++ (sortP Y ++ Z):=by
 unfold segS
 rw [seg_mid X Y Z a b ha hb,List.take_left' ha.symm,← List.append_assoc X Y Z,List.drop_left' (by simp;omega)]
theorem cIns_ok (B):ConOk Try.prog B 69 (cRow T_ins):=by
 refine cRow_ok Try.func69 (by kernel_rfl) (by kernel_rfl) C0_ok (fun args g l h hok=>?_) B
 unfold T_ins at h
 split at h
 case h_2=>cases h
 rename_i a b
 cases h
 obtain ⟨h1,h2,h3,h4,h5⟩:=cdec_true.1 hok
 unfold len' at h3
 obtain ⟨a,rfl⟩:=Int.eq_ofNat_of_zero_le h1
 obtain ⟨b,rfl⟩:=Int.eq_ofNat_of_zero_le (show 0≤b by omega)
 refine ⟨1002,T53,?_⟩
 obtain ⟨X,Y,Z,rfl,g1,g2⟩:=split3 l a b (by omega) (by omega)
 rw [Int.toNat_natCast,Int.toNat_natCast,seg_mid X Y Z a b (by omega) (by omega)] at h5
 refine (ev53_eq 1002 _ a b).trans ?_
 show _=endR (segS (a:Int).toNat (b:Int).toNat _)
 rw [Int.toNat_natCast,Int.toNat_natCast,segS_mid X Y Z a b (by omega) (by omega)]
 have hlen:(X ++ (Y ++ Z)).length=X.length+(Y.length+Z.length):=by simp
 have e1:IT.wrap ((a:Int)+1)=((a+1:Nat):Int):=by rw [wr (by omega) (by omega)];omega
 rw [e1]
 cases Y with
 | nil =>
  rw [L53_eq,decide_eq_false (by simp at g2;omega),sel_false]
  rfl
 | cons y Y =>
  have:=L53_run 1002 (by omega) a b Y.length 1002 X [y] Y Z rfl (by rw [List.length_cons] at hlen;omega) g1 (by simp at g2 ⊢;omega) (by simpa [sortP,insP] using h4) h5
  exact this
end Go.Proofs.Ytlfkfajodnkkhaa.Sh
namespace Go.Proofs.Ytlfkfajodnkkhaa.Sh
open Go Go.RowKit Go.Proofs.YtlfkfajodnkkhaaW.PrintWords Go.Proofs.Ytlfkfajodnkkhaa.Ax
set_option linter.unusedVariables false
set_option linter.unusedSimpArgs false
open Classical in
theorem bin {α:Type} (f:Nat→Nat→Nat→α) (g:Nat→α) (P:Nat→Prop) (lo hi:Nat) (mono:∀ h h',lo≤h'→h'≤h→h<hi→P h→P h')
 (step:∀ k i j,lo≤i→i<j→j≤hi→f (k+1) i j=if P ((i+j) / 2) then f k ((i+j) / 2+1) j else f k i ((i+j) / 2)) (fin:∀ k i,lo≤i→i≤hi→f (k+1) i i=g i) :
 ∀ (n k i j:Nat),j - i≤n→n<k→lo≤i→i≤j→j≤hi→(∀ h,lo≤h→h<i→P h)→(∀ h,j≤h→h<hi→¬ P h)→
  ∃ t,lo≤t∧t≤hi∧f k i j=g t∧(∀ h,lo≤h→h<t→P h)∧(∀ h,t≤h→h<hi→¬ P h):=by
 intro n
 induction n with
 | zero =>
  intro k i j h1 h2 h3 h4 h5 h6 h7
  obtain ⟨k,rfl⟩:∃ k',k=k'+1:=⟨k - 1,by omega⟩
  obtain rfl:i=j:=by omega
  exact ⟨i,h3,h5,fin k i h3 h5,h6,h7⟩
 | succ n ih =>
  intro k i j h1 h2 h3 h4 h5 h6 h7
  obtain ⟨k,rfl⟩:∃ k',k=k'+1:=⟨k - 1,by omega⟩
  by_cases hij:i=j
  · subst hij
    exact ⟨i,h3,h5,fin k i h3 h5,h6,h7⟩
  · rw [step k i j h3 (by omega) h5]
    by_cases hp:P ((i+j) / 2)
    · rw [if_pos hp]
      exact ih k _ j (by omega) (by omega) (by omega) (by omega) h5 (fun h a b=>mono ((i+j) / 2) h a (by omega) (by omega) hp) h7
    · rw [if_neg hp]
      exact ih k i _ (by omega) (by omega) h3 (by omega) (by omega) h6 (fun h a b hh=>hp (mono h ((i+j) / 2) (by omega) a b hh))
theorem L54b_run (d F:Nat) (x:HP) (Z:List HP):∀ (R X:List HP) (k:Nat),R.length<k→(X ++ (x :: (R ++ Z))).length≤1000→L54b d F k (X ++ (x :: (R ++ Z))) (X.length+1+R.length:Nat) X.length=endR (X ++ (R ++ (x :: Z)))
 | [],X,k,hk,hl=>by
  obtain ⟨k,rfl⟩:∃ k',k=k'+1:=⟨k - 1,by omega⟩
  have hlen:(X ++ (x :: ([] ++ Z))).length=X.length+(1+Z.length):=by simp;omega
  have e1:IT.wrap (((X.length+1+([]:List HP).length:Nat):Int) - 1)=(X.length:Int):=by simp only [List.length_nil];rw [wr (by omega) (by omega)];omega
  rw [L54b_eq,e1,decide_eq_false (by omega),sel_false];rfl
 | r :: R,X,k,hk,hl=>by
  obtain ⟨k,rfl⟩:∃ k',k=k'+1:=⟨k - 1,by omega⟩
  have hlen:(X ++ (x :: ((r :: R) ++ Z))).length=X.length+(1+(1+(R.length+Z.length))):=by simp;omega
  have e1:IT.wrap (((X.length+1+(r :: R).length:Nat):Int) - 1)=((X.length+1+R.length:Nat):Int):=by simp only [List.length_cons];rw [wr (by omega) (by omega)];omega
  have e2:IT.wrap ((X.length:Int)+1)=((X.length+1:Nat):Int):=by rw [wr (by omega) (by omega)];omega
  rw [L54b_eq,e1,decide_eq_true (by omega),sel_true,e2,swP_at _ _ _ _ (by omega) (by omega)]
  have hsw:sw (X ++ (x :: ((r :: R) ++ Z))) (X.length:Nat) (X.length+1:Nat)=(X ++ [r]) ++ (x :: (R ++ Z)):=by
   have:=sw_mid X [] (R ++ Z) x r X.length (X.length+1) rfl (by simp)
   simpa using this
  have ih:=L54b_run d F x Z R (X ++ [r]) k (by simp at hk;omega) (by simp at hl ⊢;omega)
  rw [hsw]
  have e3:(X ++ [r]).length+1+R.length=X.length+1+(r :: R).length:=by simp;omega
  have e4:(X ++ [r]).length=X.length+1:=by simp
  rw [e3,e4] at ih
  rw [ih]
  simp
theorem L54d_run (d F:Nat) (x:HP) (X:List HP):∀ (n:Nat) (L Z:List HP) (k:Nat),L.length=n→n<k→(X ++ (L ++ (x :: Z))).length≤1000→L54d d F k (X ++ (L ++ (x :: Z))) X.length (X.length+n:Nat)=endR (X ++ (x :: (L ++ Z))):=by
 intro n
 induction n with
 | zero =>
  intro L Z k hL hk hl
  obtain ⟨k,rfl⟩:∃ k',k=k'+1:=⟨k - 1,by omega⟩
  have:L=[]:=List.length_eq_zero_iff.1 hL
  subst this
  rw [L54d_eq,decide_eq_false (by omega),sel_false];rfl
 | succ n ih =>
  intro L Z k hL hk hl
  obtain ⟨k,rfl⟩:∃ k',k=k'+1:=⟨k - 1,by omega⟩
  obtain ⟨L0,y,rfl⟩:∃ L0 y,L=L0 ++ [y]:=by
   rcases List.eq_nil_or_concat L with rfl|⟨S0,y,h⟩
   · simp at hL
   · exact ⟨S0,y,by simpa using h⟩
  have h0:L0.length=n:=by simpa using hL
  have hlen:(X ++ ((L0 ++ [y]) ++ (x :: Z))).length=X.length+(n+(1+(1+Z.length))):=by simp [h0];omega
  have e2:IT.wrap (((X.length+(n+1):Nat):Int) - 1)=((X.length+n:Nat):Int):=by rw [wr (by omega) (by omega)];omega
  rw [L54d_eq,decide_eq_true (by omega),sel_true,e2,swP_at _ _ _ _ (by omega) (by omega)]
  have hsw:sw (X ++ ((L0 ++ [y]) ++ (x :: Z))) ((X.length+(n+1):Nat):Int) ((X.length+n:Nat):Int)=X ++ (L0 ++ (x :: (y :: Z))):=by
   have:=sw_mid' (X ++ L0) [] Z y x (X.length+n) (X.length+(n+1)) (by simp;omega) (by simp;omega)
   simpa using this
  rw [hsw,ih L0 (y :: Z) k h0 (by omega) (by simp at hl ⊢;omega)]
  simp
theorem rA_in (X L T:List HP) (h:Nat) (h1:X.length≤h) (h2:h<X.length+L.length):rA (X ++ (L ++ T)) h=L[h - X.length]'(by omega):=by
 rw [rA_at _ _ (by simp;omega),List.getElem_append_right h1,List.getElem_append_left (by omega)]
theorem srt_get {l:List HP} (h:Srt l) (i j:Nat) (hi:i<l.length) (hj:j<l.length) (hij:i≤j) {x:HP} (hx:ltP l[j] x):ltP l[i] x:=by
 by_cases e:i=j
 · subst e;exact hx
 · exact ltP_trans (List.pairwise_iff_getElem.1 h i j hi hj (by omega)) hx
theorem srt_get' {l:List HP} (h:Srt l) (i j:Nat) (hi:i<l.length) (hj:j<l.length) (hij:i≤j) {x:HP} (hx:ltP x l[i]):ltP x l[j]:=by
 by_cases e:i=j
 · subst e;exact hx
 · exact ltP_trans hx (List.pairwise_iff_getElem.1 h i j hi hj (by omega))
theorem split_at (R:List HP) (t:Nat) (h:t≤R.length):∃ A B,R=A ++ B∧A.length=t:=⟨R.take t,R.drop t,(List.take_append_drop t R).symm,by rw [List.length_take];omega⟩
theorem mergeA (d F:Nat) (hF:1001≤F) (X:List HP) (x:HP) (R Z:List HP) (hl:(X ++ (x :: (R ++ Z))).length≤1000) (hR:Srt R) (hx:∀ y∈R,x.1<y.1) (hd:Dif (x :: R)) :
 L54a d F F (X ++ (x :: (R ++ Z))) X.length (X.length+1:Nat) (X.length+1+R.length:Nat)=endR (X ++ (sortP (x :: R) ++ Z)):=by
 have hlen:(X ++ (x :: (R ++ Z))).length=X.length+(1+(R.length+Z.length)):=by simp;omega
 have hget:∀ h,(h0:X.length+1≤h)→(hh:h<X.length+1+R.length)→rA (X ++ (x :: (R ++ Z))) h=R[h - (X.length+1)]'(by omega):=by
  intro h h1 h2
  have:=rA_in (X ++ [x]) R Z h (by simpa using h1) (by simpa using h2)
  simpa using this
 obtain ⟨t,g1,g2,g3,g4,g5⟩:=bin (fun k i j=>L54a d F k (X ++ (x :: (R ++ Z))) X.length i j) (fun i=>L54b d F F (X ++ (x :: (R ++ Z))) i X.length) (fun h=>ltP (rA (X ++ (x :: (R ++ Z))) h) x) (X.length+1) (X.length+1+R.length)
  (fun h h' a b c hp=>by
   rw [hget h (by omega) c] at hp
   rw [hget h' a (by omega)]
   exact srt_get hR _ _ (by omega) (by omega) (by omega) hp)
  (fun k i j a b c=>by
   show L54a d F (k+1) _ _ _ _=_
   have e3:IT.wrap ((((i+j) / 2:Nat):Int)+1)=(((i+j) / 2+1:Nat):Int):=by rw [wr (by omega) (by omega)];omega
   rw [L54a_eq,decide_eq_true (by omega),sel_true,half_nat i j (by omega),idx_at _ _ (by omega),idx_at _ _ (by omega),rA_mid X x _ X.length rfl,e3]
   have hm:=hget ((i+j) / 2) (by omega) (by omega)
   have hmem:rA (X ++ (x :: (R ++ Z))) ((i+j) / 2:Nat)∈R:=by rw [hm];exact List.getElem_mem _
   by_cases hp:ltP (rA (X ++ (x :: (R ++ Z))) ((i+j) / 2:Nat)) x
   · rw [if_pos hp,decide_eq_true ((cmp_lt (hx _ hmem)).2 hp),sel_true]
   · rw [if_neg hp,decide_eq_false (fun h=>hp ((cmp_lt (hx _ hmem)).1 h)),sel_false])
  (fun k i a b=>by
   show L54a d F (k+1) _ _ _ _=_
   rw [L54a_eq,decide_eq_false (by omega),sel_false])
  R.length F (X.length+1) (X.length+1+R.length) (by omega) (by omega) (Nat.le_refl _) (by omega) (Nat.le_refl _) (fun h a b=>absurd a (Nat.not_le.2 b)) (fun h a b=>absurd a (Nat.not_le.2 b))
 obtain ⟨A,B,rfl,hA⟩:=split_at R (t - (X.length+1)) (by omega)
 have g3':L54a d F F (X ++ (x :: ((A ++ B) ++ Z))) X.length (X.length+1:Nat) (X.length+1+(A ++ B).length:Nat)=L54b d F F (X ++ (x :: ((A ++ B) ++ Z))) t X.length:=g3
 rw [g3']
 have hrun:=L54b_run d F x (B ++ Z) A X F (by omega) (by simpa using hl)
 rw [show X.length+1+A.length=t by omega] at hrun
 rw [show X ++ (x :: ((A ++ B) ++ Z))=X ++ (x :: (A ++ (B ++ Z))) by simp,hrun]
 have hp:=List.pairwise_append.1 hR
 have hs:Srt (A ++ (x :: B)):=by
  refine List.pairwise_append.2 ⟨hp.1,List.pairwise_cons.2 ⟨fun y hy=>?_,hp.2.1⟩,fun y hy z hz=>?_⟩
  · obtain ⟨i,hi,rfl⟩:=List.mem_iff_getElem.1 hy
    have:=g5 (t+i) (by omega) (by simp;omega)
    rw [hget (t+i) (by omega) (by simp;omega)] at this
    have e:(A ++ B)[t+i - (X.length+1)]'(by simp;omega)=B[i]:=by
     rw [List.getElem_append_right (by omega)]
     congr 1;omega
    rw [e] at this
    exact (ltP_total (Int.ne_of_lt (hx B[i] (by simp)))).resolve_right this
  · obtain ⟨i,hi,rfl⟩:=List.mem_iff_getElem.1 hy
    have h2:=g4 (X.length+1+i) (by omega) (by omega)
    rw [hget (X.length+1+i) (by omega) (by simp;omega)] at h2
    have e:(A ++ B)[X.length+1+i - (X.length+1)]'(by simp;omega)=A[i]:=by
     rw [List.getElem_append_left (by omega)]
     congr 1;omega
    rw [e] at h2
    rcases List.mem_cons.1 hz with rfl|hz
    · exact h2
    · exact hp.2.2 _ hy z hz
 rw [← hs.dif_sort (List.perm_middle) hd]
 simp
end Go.Proofs.Ytlfkfajodnkkhaa.Sh
namespace Go.Proofs.Ytlfkfajodnkkhaa.Sh
open Go Go.RowKit Go.Proofs.YtlfkfajodnkkhaaW.PrintWords Go.Proofs.Ytlfkfajodnkkhaa.Ax
set_option linter.unusedVariables false
set_option linter.unusedSimpArgs false
theorem mergeC (d F:Nat) (hF:1001≤F) (X:List HP) (x:HP) (L Z:List HP) (hl:(X ++ (L ++ (x :: Z))).length≤1000) (hL:Srt L) (hx:∀ y∈L,y.1<x.1) (hd:Dif (L ++ [x])) :
 L54c d F F (X ++ (L ++ (x :: Z))) (X.length+L.length:Nat) X.length (X.length+L.length:Nat)=endR (X ++ (sortP (L ++ [x]) ++ Z)):=by
 have hlen:(X ++ (L ++ (x :: Z))).length=X.length+(L.length+(1+Z.length)):=by simp;omega
 have hget:∀ h,(h0:X.length≤h)→(hh:h<X.length+L.length)→rA (X ++ (L ++ (x :: Z))) h=L[h - X.length]'(by omega):=fun h h1 h2=>rA_in X L (x :: Z) h h1 h2
 have hxm:rA (X ++ (L ++ (x :: Z))) (X.length+L.length:Nat)=x:=by
  have:=rA_mid (X ++ L) x Z (X.length+L.length) (by simp)
  simpa using this
 obtain ⟨t,g1,g2,g3,g4,g5⟩:=bin (fun k i j=>L54c d F k (X ++ (L ++ (x :: Z))) (X.length+L.length:Nat) i j) (fun i=>L54d d F F (X ++ (L ++ (x :: Z))) i (X.length+L.length:Nat)) (fun h=>ltP (rA (X ++ (L ++ (x :: Z))) h) x) X.length (X.length+L.length)
  (fun h h' a b c hp=>by
   rw [hget h (by omega) c] at hp
   rw [hget h' a (by omega)]
   exact srt_get hL _ _ (by omega) (by omega) (by omega) hp)
  (fun k i j a b c=>by
   show L54c d F (k+1) _ _ _ _=_
   have e3:IT.wrap ((((i+j) / 2:Nat):Int)+1)=(((i+j) / 2+1:Nat):Int):=by rw [wr (by omega) (by omega)];omega
   rw [L54c_eq,decide_eq_true (by omega),sel_true,half_nat i j (by omega),idx_at _ _ (by omega),idx_at _ _ (by omega),hxm,e3]
   have hm:=hget ((i+j) / 2) (by omega) (by omega)
   have hmem:rA (X ++ (L ++ (x :: Z))) ((i+j) / 2:Nat)∈L:=by rw [hm];exact List.getElem_mem _
   by_cases hp:ltP (rA (X ++ (L ++ (x :: Z))) ((i+j) / 2:Nat)) x
   · rw [if_pos hp,decide_eq_false (fun h=>ltP_asymm hp ((cmp_lt (hx _ hmem)).1 h))];rfl
   · rw [if_neg hp,decide_eq_true ((cmp_lt (hx _ hmem)).2 ((ltP_total (Int.ne_of_lt (hx _ hmem))).resolve_left hp))];rfl)
  (fun k i a b=>by
   show L54c d F (k+1) _ _ _ _=_
   rw [L54c_eq,decide_eq_false (by omega),sel_false])
  L.length F X.length (X.length+L.length) (by omega) (by omega) (Nat.le_refl _) (by omega) (Nat.le_refl _) (fun h a b=>absurd a (Nat.not_le.2 b)) (fun h a b=>absurd a (Nat.not_le.2 b))
 obtain ⟨A,B,rfl,hA⟩:=split_at L (t - X.length) (by omega)
 have g3':L54c d F F (X ++ ((A ++ B) ++ (x :: Z))) (X.length+(A ++ B).length:Nat) X.length (X.length+(A ++ B).length:Nat)=L54d d F F (X ++ ((A ++ B) ++ (x :: Z))) t (X.length+(A ++ B).length:Nat):=g3
 rw [g3']
 have hAB:(A ++ B).length=A.length+B.length:=by simp
 have hrun:=L54d_run d F x (X ++ A) B.length B Z F rfl (by omega) (by simpa using hl)
 rw [show (X ++ A).length=t by simp;omega,show t+B.length=X.length+(A ++ B).length by omega] at hrun
 rw [show X ++ ((A ++ B) ++ (x :: Z))=(X ++ A) ++ (B ++ (x :: Z)) by simp,hrun]
 have hp:=List.pairwise_append.1 hL
 have hs:Srt (A ++ (x :: B)):=by
  have hB:∀ y∈B,ltP x y:=by
   intro y hy
   obtain ⟨i,hi,rfl⟩:=List.mem_iff_getElem.1 hy
   have:=g5 (t+i) (by omega) (by omega)
   rw [hget (t+i) (by omega) (by omega)] at this
   have e:(A ++ B)[t+i - X.length]'(by omega)=B[i]:=by
    rw [List.getElem_append_right (by omega)]
    congr 1;omega
   rw [e] at this
   exact (ltP_total (Int.ne_of_lt (hx B[i] (by simp)))).resolve_left this
  have hA':∀ y∈A,ltP y x:=by
   intro y hy
   obtain ⟨i,hi,rfl⟩:=List.mem_iff_getElem.1 hy
   have h2:=g4 (X.length+i) (by omega) (by omega)
   rw [hget (X.length+i) (by omega) (by omega)] at h2
   have e:(A ++ B)[X.length+i - X.length]'(by omega)=A[i]:=by
    rw [List.getElem_append_left (by omega)]
    congr 1;omega
   rwa [e] at h2
  refine List.pairwise_append.2 ⟨hp.1,List.pairwise_cons.2 ⟨hB,hp.2.1⟩,fun y hy z hz=>?_⟩
  rcases List.mem_cons.1 hz with rfl|hz
  · exact hA' y hy
  · exact hp.2.2 _ hy z hz
 have hperm:(A ++ (x :: B)).Perm ((A ++ B) ++ [x]):=List.perm_middle.trans (List.perm_append_singleton x (A ++ B)).symm
 rw [← hs.dif_sort hperm hd]
 simp
theorem Dif.sub {l m:List HP} (h:Dif m) (s:l.Sublist m):Dif l:=List.Pairwise.sublist s h
theorem half_step (d:Nat) (Y A B W:List HP) (i j k:Nat) (K:List HP→R2) (hi:i=Y.length) (hj:j=Y.length+A.length) (hk:k=Y.length+A.length+B.length) (hl:(Y ++ (A ++ (B ++ W))).length≤1000) (hA:Srt A) (hB:Srt B) (hd:Dif (A ++ B)) (hx:∀ x∈A,∀ y∈B,x.1<y.1) (h2:k - i≤2 ^ d) :
 sel (decide ((i:Int)<j)) (sel (decide ((j:Int)<k)) (symc d (Y ++ (A ++ (B ++ W))) i j k K) (K (Y ++ (A ++ (B ++ W))))) (K (Y ++ (A ++ (B ++ W))))=K (Y ++ (sortP (A ++ B) ++ W)):=by
 by_cases ha:A=[]
 · subst ha
   rw [decide_eq_false (by simp at hj;omega),sel_false,List.nil_append,List.nil_append,← hB.dif_sort (List.Perm.refl _) hd]
 · have ha':0<A.length:=List.length_pos_iff.2 ha
   rw [decide_eq_true (by omega),sel_true]
   by_cases hb:B=[]
   · subst hb
     rw [decide_eq_false (by simp at hk;omega),sel_false,List.append_nil,← hA.dif_sort (List.Perm.refl _) (by simpa using hd),List.nil_append]
   · have hb':0<B.length:=List.length_pos_iff.2 hb
     rw [decide_eq_true (by omega),sel_true]
     have s1:seg i j (Y ++ (A ++ (B ++ W)))=A:=seg_mid Y A (B ++ W) i j hi hj
     have s2:seg j k (Y ++ (A ++ (B ++ W)))=B:=by
      have:=seg_mid (Y ++ A) B W j k (by simpa using hj) (by simpa using hk)
      simpa using this
     have s3:seg i k (Y ++ (A ++ (B ++ W)))=A ++ B:=by
      have:=seg_mid Y (A ++ B) W i k hi (by simp;omega)
      simpa using this
     have hlen:(Y ++ (A ++ (B ++ W))).length=Y.length+(A.length+(B.length+W.length)):=by simp
     have h2':(k:Int) - i≤2 ^ d:=by
      have h3:((k - i:Nat):Int)≤((2 ^ d:Nat):Int):=Int.ofNat_le.2 h2
      rw [Int.natCast_pow] at h3
      have:((k - i:Nat):Int)=(k:Int) - i:=by omega
      rw [← this];exact h3
     have hpre:preM d i j k (Y ++ (A ++ (B ++ W))):=by
      unfold preM len'
      simp only [Int.toNat_natCast]
      rw [s1,s2,s3]
      exact ⟨by omega,by omega,by omega,by omega,hl,h2',hd,hA,hB,hx⟩
     unfold symc
     rw [cdec_true.2 hpre,sel_true,Int.toNat_natCast,Int.toNat_natCast]
     have:=segS_mid Y (A ++ B) W i k hi (by simp;omega)
     rw [show Y ++ (A ++ (B ++ W))=Y ++ ((A ++ B) ++ W) by simp,this]
theorem rot_step (X L2 R1 W:List HP) (t m e:Nat) (K:List HP→R2) (ht:t=X.length) (hm:m=X.length+L2.length) (he:e=X.length+L2.length+R1.length) (hl:(X ++ (L2 ++ (R1 ++ W))).length≤1000) :
 sel (decide ((t:Int)<m)) (sel (decide ((m:Int)<e)) (rotc (X ++ (L2 ++ (R1 ++ W))) t m e K) (K (X ++ (L2 ++ (R1 ++ W))))) (K (X ++ (L2 ++ (R1 ++ W))))=K (X ++ (R1 ++ (L2 ++ W))):=by
 by_cases ha:L2=[]
 · subst ha
   rw [decide_eq_false (by simp at hm;omega),sel_false];rfl
 · have ha':0<L2.length:=List.length_pos_iff.2 ha
   rw [decide_eq_true (by omega),sel_true]
   by_cases hb:R1=[]
   · subst hb
     rw [decide_eq_false (by simp at he;omega),sel_false];rfl
   · have hb':0<R1.length:=List.length_pos_iff.2 hb
     rw [decide_eq_true (by omega),sel_true]
     have hlen:(X ++ (L2 ++ (R1 ++ W))).length=X.length+(L2.length+(R1.length+W.length)):=by simp
     have hok:okRot t m e (X ++ (L2 ++ (R1 ++ W)))=true:=by
      unfold okRot len' lenOK
      simp only [Bool.and_eq_true,decide_eq_true_eq]
      exact ⟨by omega,by omega,by omega,by omega,Nat.ble_eq_true_of_le hl⟩
     unfold rotc
     rw [hok,sel_true,Int.toNat_natCast,Int.toNat_natCast,Int.toNat_natCast,rotL_mid X L2 R1 W t m e ht hm he]
theorem mergeE (d F:Nat) (hF:1001≤F) (X L R Z:List HP) (hl:(X ++ (L ++ (R ++ Z))).length≤1000) (hL:Srt L) (hR:Srt R) (hd:Dif (L ++ R)) (hx:∀ x∈L,∀ y∈R,x.1<y.1)
 (a m b mid lo hi:Nat) (ha:a=X.length) (hm:m=a+L.length) (hb:b=m+R.length) (hmid:mid=(a+b) / 2) (hlo:(m≤mid∧lo=a∧hi=m)∨(mid<m∧lo=mid+m - b∧hi=mid)) (hL1:1≤L.length) (hR1:1≤R.length) (h2:b - a≤2 ^ (d+1)) :
 L54e d F F (X ++ (L ++ (R ++ Z))) a m b mid (mid+m:Nat) lo hi (mid+m - 1:Nat)=endR (X ++ (sortP (L ++ R) ++ Z)):=by
 have hlen:(X ++ (L ++ (R ++ Z))).length=X.length+(L.length+(R.length+Z.length)):=by simp
 have hgL:∀ h,(h0:a≤h)→(hh:h<m)→rA (X ++ (L ++ (R ++ Z))) h=L[h - a]'(by omega):=fun h h1 h2=>by
  subst ha;exact rA_in X L (R ++ Z) h h1 (by omega)
 have hgR:∀ h,(h0:m≤h)→(hh:h<b)→rA (X ++ (L ++ (R ++ Z))) h=R[h - m]'(by omega):=fun h h1 h2=>by
  have:=rA_in (X ++ L) R Z h (by simp;omega) (by simp;omega)
  have e:R[h - (X ++ L).length]'(by simp;omega)=R[h - m]'(by omega):=by congr 1;simp;omega
  rw [← e,← this];simp
 obtain ⟨t,g1,g2,g3,g4,g5⟩:=bin (fun k i j=>L54e d F k (X ++ (L ++ (R ++ Z))) a m b mid (mid+m:Nat) i j (mid+m - 1:Nat)) (fun s=>t0 d (X ++ (L ++ (R ++ Z))) a s m mid (mid+m - s:Nat) b)
  (fun h=>ltP (rA (X ++ (L ++ (R ++ Z))) h) (rA (X ++ (L ++ (R ++ Z))) (mid+m - 1 - h:Nat))) lo hi
  (fun h h' u v c hp=>by
   rw [hgL h (by omega) (by omega),hgR (mid+m - 1 - h) (by omega) (by omega)] at hp
   rw [hgL h' (by omega) (by omega),hgR (mid+m - 1 - h') (by omega) (by omega)]
   exact srt_get' hR (mid+m - 1 - h - m) (mid+m - 1 - h' - m) (by omega) (by omega) (by omega) (srt_get hL (h' - a) (h - a) (by omega) (by omega) (by omega) hp))
  (fun k i j u v c=>by
   show L54e d F (k+1) _ _ _ _ _ _ _ _ _=_
   have e3:IT.wrap ((((i+j) / 2:Nat):Int)+1)=(((i+j) / 2+1:Nat):Int):=by rw [wr (by omega) (by omega)];omega
   have e4:IT.wrap (((mid+m - 1:Nat):Int) - (((i+j) / 2:Nat):Int))=((mid+m - 1 - (i+j) / 2:Nat):Int):=by rw [wr (by omega) (by omega)];omega
   rw [L54e_eq,decide_eq_true (by omega),sel_true,half_nat i j (by omega),e4,idx_at _ _ (by omega),idx_at _ _ (by omega),e3]
   have hlt:(rA (X ++ (L ++ (R ++ Z))) ((i+j) / 2:Nat)).1<(rA (X ++ (L ++ (R ++ Z))) (mid+m - 1 - (i+j) / 2:Nat)).1:=by
    rw [hgL ((i+j) / 2) (by omega) (by omega),hgR (mid+m - 1 - (i+j) / 2) (by omega) (by omega)]
    exact hx _ (List.getElem_mem _) _ (List.getElem_mem _)
   by_cases hp:ltP (rA (X ++ (L ++ (R ++ Z))) ((i+j) / 2:Nat)) (rA (X ++ (L ++ (R ++ Z))) (mid+m - 1 - (i+j) / 2:Nat))
   · rw [if_pos hp,decide_eq_false (fun h=>ltP_asymm hp ((cmp_lt hlt).1 h))];rfl
   · rw [if_neg hp,decide_eq_true ((cmp_lt hlt).2 ((ltP_total (Int.ne_of_lt hlt)).resolve_left hp))];rfl)
  (fun k i u v=>by
   show L54e d F (k+1) _ _ _ _ _ _ _ _ _=_
   have e4:IT.wrap (((mid+m:Nat):Int) - (i:Int))=((mid+m - i:Nat):Int):=by rw [wr (by omega) (by omega)];omega
   rw [L54e_eq,decide_eq_false (by omega),sel_false,e4])
  (hi - lo) F lo hi (by omega) (by omega) (Nat.le_refl _) (by omega) (Nat.le_refl _) (fun h a b=>absurd a (Nat.not_le.2 b)) (fun h a b=>absurd a (Nat.not_le.2 b))
 have g3':L54e d F F (X ++ (L ++ (R ++ Z))) a m b mid (mid+m:Nat) lo hi (mid+m - 1:Nat)=t0 d (X ++ (L ++ (R ++ Z))) a t m mid (mid+m - t:Nat) b:=g3
 rw [g3']
 have hLt:∀ h,lo≤h→h<t→ltP (rA (X ++ (L ++ (R ++ Z))) h) (rA (X ++ (L ++ (R ++ Z))) (mid+m - 1 - h:Nat)):=g4
 have hgt:∀ h,t≤h→h<hi→¬ ltP (rA (X ++ (L ++ (R ++ Z))) h) (rA (X ++ (L ++ (R ++ Z))) (mid+m - 1 - h:Nat)):=g5
 -- the four pieces
 have cLR:∀ i j,(hi':i<L.length)→(hj':j<R.length)→i+a<t→mid - t≤j→ltP L[i] R[j]:=by
  intro i j hi' hj' h1 h3
  have h4:=hLt (t - 1) (by omega) (by omega)
  rw [hgL (t - 1) (by omega) (by omega),hgR (mid+m - 1 - (t - 1)) (by omega) (by omega)] at h4
  exact srt_get' hR _ j (by omega) hj' (by omega) (srt_get hL i _ hi' (by omega) (by omega) h4)
 have cRL:∀ i j,(hi':i<L.length)→(hj':j<R.length)→t≤i+a→j<mid - t→ltP R[j] L[i]:=by
  intro i j hi' hj' h1 h3
  have h4:=hgt t (Nat.le_refl _) (by omega)
  rw [hgL t (by omega) (by omega),hgR (mid+m - 1 - t) (by omega) (by omega)] at h4
  have h5:=(ltP_total (Int.ne_of_lt (hx _ (List.getElem_mem (show t - a<L.length by omega)) _ (List.getElem_mem (show mid+m - 1 - t - m<R.length by omega))))).resolve_left h4
  exact srt_get' hL _ i (by omega) hi' (by omega) (srt_get hR j _ hj' (by omega) (by omega) h5)
 obtain ⟨L1,L2,rfl,hL1l⟩:=split_at L (t - a) (by omega)
 obtain ⟨R1,R2,rfl,hR1l⟩:=split_at R (mid - t) (by omega)
 have hpL:=List.pairwise_append.1 hL
 have hpR:=List.pairwise_append.1 hR
 have eL:(L1 ++ L2).length=L1.length+L2.length:=by simp
 have eR:(R1 ++ R2).length=R1.length+R2.length:=by simp
 have x12:∀ x∈L1,∀ y∈R2,ltP x y:=by
  intro x hx' y hy'
  obtain ⟨i,hi',rfl⟩:=List.mem_iff_getElem.1 hx'
  obtain ⟨j,hj',rfl⟩:=List.mem_iff_getElem.1 hy'
  have:=cLR i (R1.length+j) (by omega) (by omega) (by omega) (by omega)
  rwa [List.getElem_append_left hi',List.getElem_append_right (by omega),show (R2[R1.length+j - R1.length]'(by omega))=R2[j] by congr 1;omega] at this
 have x21:∀ x∈R1,∀ y∈L2,ltP x y:=by
  intro x hx' y hy'
  obtain ⟨j,hj',rfl⟩:=List.mem_iff_getElem.1 hx'
  obtain ⟨i,hi',rfl⟩:=List.mem_iff_getElem.1 hy'
  have:=cRL (L1.length+i) j (by omega) (by omega) (by omega) (by omega)
  rwa [List.getElem_append_left hj',List.getElem_append_right (by omega),show (L2[L1.length+i - L1.length]'(by omega))=L2[i] by congr 1;omega] at this
 have hd1:Dif (L1 ++ R1):=hd.sub ((List.sublist_append_left L1 L2).append (List.sublist_append_left R1 R2))
 have hd2:Dif (L2 ++ R2):=hd.sub ((List.sublist_append_right L1 L2).append (List.sublist_append_right R1 R2))
 unfold t0 t1 t2
 have r0:=rot_step (X ++ L1) L2 R1 (R2 ++ Z) t m (mid+m - t) (fun l=>t1 d l a t mid (mid+m - t:Nat) b) (by simp;omega) (by simp;omega) (by simp;omega) (by simp at hl ⊢;omega)
 rw [show X ++ ((L1 ++ L2) ++ ((R1 ++ R2) ++ Z))=(X ++ L1) ++ (L2 ++ (R1 ++ (R2 ++ Z))) by simp]
 refine r0.trans ?_
 have hw1:mid - a≤2 ^ d:=by
  have:2 ^ (d+1)=2 * 2 ^ d:=by rw [Nat.pow_succ];omega
  omega
 have hw2:b - mid≤2 ^ d:=by
  have:2 ^ (d+1)=2 * 2 ^ d:=by rw [Nat.pow_succ];omega
  omega
 have r1:=half_step d X L1 R1 (L2 ++ (R2 ++ Z)) a t mid (fun l=>t2 d l mid (mid+m - t:Nat) b) ha (by omega) (by omega) (by simp at hl ⊢;omega) hpL.1 hpR.1 hd1 (fun x hx' y hy'=>hx x (by simp [hx']) y (by simp [hy'])) hw1
 rw [show (X ++ L1) ++ (R1 ++ (L2 ++ (R2 ++ Z)))=X ++ (L1 ++ (R1 ++ (L2 ++ (R2 ++ Z)))) by simp]
 refine r1.trans ?_
 have hsl:(sortP (L1 ++ R1)).length=L1.length+R1.length:=by rw [sortP_len];simp
 have r2:=half_step d (X ++ sortP (L1 ++ R1)) L2 R2 Z mid (mid+m - t) b endR (by rw [List.length_append,hsl];omega) (by rw [List.length_append,hsl];omega) (by rw [List.length_append,hsl];omega) (by simp [hsl] at hl ⊢;omega) hpL.2.1 hpR.2.1 hd2 (fun x hx' y hy'=>hx x (by simp [hx']) y (by simp [hy'])) hw2
 rw [show X ++ (sortP (L1 ++ R1) ++ (L2 ++ (R2 ++ Z)))=(X ++ sortP (L1 ++ R1)) ++ (L2 ++ (R2 ++ Z)) by simp]
 refine r2.trans ?_
 have hs:Srt (sortP (L1 ++ R1) ++ sortP (L2 ++ R2)):=by
  refine List.pairwise_append.2 ⟨sortP_srt _ hd1,sortP_srt _ hd2,fun x hx' y hy'=>?_⟩
  rcases List.mem_append.1 ((sortP_perm _).mem_iff.1 hx') with h1|h1<;>rcases List.mem_append.1 ((sortP_perm _).mem_iff.1 hy') with h3|h3
  · exact hpL.2.2 x h1 y h3
  · exact x12 x h1 y h3
  · exact x21 x h1 y h3
  · exact hpR.2.2 x h1 y h3
 have hperm:(sortP (L1 ++ R1) ++ sortP (L2 ++ R2)).Perm ((L1 ++ L2) ++ (R1 ++ R2)):=by
  refine ((sortP_perm _).append (sortP_perm _)).trans ?_
  rw [List.append_assoc,List.append_assoc]
  refine List.Perm.append_left L1 ?_
  rw [← List.append_assoc,← List.append_assoc]
  exact List.Perm.append_right R2 List.perm_append_comm
 rw [← hs.dif_sort hperm hd]
 simp
end Go.Proofs.Ytlfkfajodnkkhaa.Sh
namespace Go.Proofs.Ytlfkfajodnkkhaa.Sh
open Go Go.RowKit Go.Proofs.YtlfkfajodnkkhaaW.PrintWords Go.Proofs.Ytlfkfajodnkkhaa.Ax
set_option linter.unusedVariables false
set_option linter.unusedSimpArgs false
theorem beq_ii {x y:Int} (h:x=y):(x == y)=true:=by simpa using h
theorem beq_ni {x y:Int} (h:x≠y):(x == y)=false:=by simpa using h
theorem sym_run (d F:Nat) (hF:1001≤F) (X L R Z:List HP) (hl:(X ++ (L ++ (R ++ Z))).length≤1000) (hL:Srt L) (hR:Srt R) (hd:Dif (L ++ R)) (hx:∀ x∈L,∀ y∈R,x.1<y.1)
 (a m b:Nat) (ha:a=X.length) (hm:m=a+L.length) (hb:b=m+R.length) (hL1:1≤L.length) (hR1:1≤R.length) (h2:b - a≤2 ^ (d+1)) :
 ev54 d F (X ++ (L ++ (R ++ Z))) a m b=endR (X ++ (sortP (L ++ R) ++ Z)):=by
 have hlen:(X ++ (L ++ (R ++ Z))).length=X.length+(L.length+(R.length+Z.length)):=by simp
 have e1:IT.wrap ((m:Int) - a)=((m - a:Nat):Int):=by rw [wr (by omega) (by omega)];omega
 have e2:IT.wrap ((b:Int) - m)=((b - m:Nat):Int):=by rw [wr (by omega) (by omega)];omega
 rw [ev54_eq,e1,e2]
 by_cases h1:L.length=1
 · rw [beq_ii (by omega),sel_true]
   obtain ⟨x,rfl⟩:=List.length_eq_one_iff.1 h1
   have:=mergeA d F hF X x R Z (by simpa using hl) hR (fun y hy=>hx x (by simp) y hy) (by simpa using hd)
   rw [ha,show m=X.length+1 by omega,show b=X.length+1+R.length by omega]
   simpa using this
 · rw [beq_ni (by omega),sel_false]
   by_cases h3:R.length=1
   · rw [beq_ii (by omega),sel_true]
     obtain ⟨x,rfl⟩:=List.length_eq_one_iff.1 h3
     have:=mergeC d F hF X x L Z (by simpa using hl) hL (fun y hy=>hx y hy x (by simp)) hd
     rw [ha,show m=X.length+L.length by omega]
     simpa using this
   · rw [beq_ni (by omega),sel_false,half_nat a b (by omega)]
     have e3:IT.wrap ((((a+b) / 2:Nat):Int)+m)=(((a+b) / 2+m:Nat):Int):=by rw [wr (by omega) (by omega)];omega
     have e4:IT.wrap ((((a+b) / 2+m:Nat):Int) - 1)=(((a+b) / 2+m - 1:Nat):Int):=by rw [wr (by omega) (by omega)];omega
     rw [e3,e4]
     by_cases h4:(a+b) / 2<m
     · have e5:IT.wrap ((((a+b) / 2+m:Nat):Int) - b)=(((a+b) / 2+m - b:Nat):Int):=by rw [wr (by omega) (by omega)];omega
       rw [decide_eq_true (by omega),sel_true,e5]
       exact mergeE d F hF X L R Z hl hL hR hd hx a m b ((a+b) / 2) _ _ ha hm hb rfl (.inr ⟨h4,rfl,rfl⟩) hL1 hR1 h2
     · rw [decide_eq_false (by omega),sel_false]
       exact mergeE d F hF X L R Z hl hL hR hd hx a m b ((a+b) / 2) _ _ ha hm hb rfl (.inl ⟨by omega,rfl,rfl⟩) hL1 hR1 h2
theorem cSym_ok:∀ (d:Nat) (B),ConOk Try.prog B 70 (cRow (T_sym d)):=by
 have pre:∀ d args g l,T_sym d args=some g→(g l).1=true→∃ a m b:Int,args=[.all 0,vi a,vi m,vi b,fnC]∧preM d a m b l∧(g l).2=segS a.toNat b.toNat l:=by
  intro d args g l h hok
  unfold T_sym at h
  split at h
  case h_2=>cases h
  rename_i a m b
  cases h
  exact ⟨a,m,b,rfl,cdec_true.1 hok,rfl⟩
 intro d
 induction d with
 | zero =>
  intro B
  refine cRow_ok (C:=C0) Try.func70 (by kernel_rfl) (by kernel_rfl) C0_ok (fun args g l h hok=>?_) B
  obtain ⟨a,m,b,_,hp,_⟩:=pre 0 args g l h hok
  unfold preM at hp
  have:(2:Int) ^ 0=1:=rfl
  omega
 | succ d ih =>
  intro B
  refine cRow_ok (C:=C2 d) Try.func70 (by kernel_rfl) (by kernel_rfl) (fun B' g φ h=>?_) (fun args g l h hok=>?_) B
  · unfold C2 at h
    split at h
    · cases h;exact cRot_ok B'
    · cases h;exact ih B'
    · exact C0_ok B' _ φ h
  · obtain ⟨a,m,b,rfl,hp,he⟩:=pre (d+1) args g l h hok
    rw [he]
    unfold preM len' at hp
    obtain ⟨h1,h2,h3,h4,h5,h6,h7,h8,h9,h10⟩:=hp
    obtain ⟨a,rfl⟩:=Int.eq_ofNat_of_zero_le h1
    obtain ⟨m,rfl⟩:=Int.eq_ofNat_of_zero_le (show 0≤m by omega)
    obtain ⟨b,rfl⟩:=Int.eq_ofNat_of_zero_le (show 0≤b by omega)
    obtain ⟨X,L,R,Z,rfl,g1,g2,g3⟩:=split4 l a m b (by omega) (by omega) (by omega)
    simp only [Int.toNat_natCast] at h7 h8 h9 h10 ⊢
    have s1:seg a m (X ++ (L ++ (R ++ Z)))=L:=seg_mid X L (R ++ Z) a m (by omega) (by omega)
    have s2:seg m b (X ++ (L ++ (R ++ Z)))=R:=by
     have:=seg_mid (X ++ L) R Z m b (by simp;omega) (by simp;omega)
     simpa using this
    have s3:seg a b (X ++ (L ++ (R ++ Z)))=L ++ R:=by
     have:=seg_mid X (L ++ R) Z a b (by omega) (by simp;omega)
     simpa using this
    rw [s1] at h8 h10
    rw [s2] at h9 h10
    rw [s3] at h7
    have hw:b - a≤2 ^ (d+1):=by
     have h11:((b - a:Nat):Int)≤((2 ^ (d+1):Nat):Int):=by
      rw [Int.natCast_pow]
      have:((b - a:Nat):Int)=(b:Int) - a:=by omega
      rw [this];exact h6
     exact Int.ofNat_le.1 h11
    refine ⟨1001,T54,(sym_run d 1001 (Nat.le_refl _) X L R Z h5 h8 h9 h7 h10 a m b (by omega) (by omega) (by omega) (by omega) (by omega) hw).trans ?_⟩
    have:=segS_mid X (L ++ R) Z a b (by omega) (by simp;omega)
    rw [show X ++ (L ++ (R ++ Z))=X ++ ((L ++ R) ++ Z) by simp,this]
theorem C3_ok (d:Nat):∀ B' g φ,C3 d g=some φ→ConOk Try.prog B' g φ:=by
 intro B' g φ h
 unfold C3 at h
 split at h
 · cases h;exact cIns_ok B'
 · cases h;exact cSym_ok d B'
 · exact C0_ok B' _ φ h
def blkS (bs:Nat):Nat→List HP→List HP
 | 0,l=>sortP l
 | f+1,l=>if bs≤l.length then sortP (l.take bs) ++ blkS bs f (l.drop bs) else sortP l
theorem blkS_perm (bs:Nat):∀ (f:Nat) (l:List HP),(blkS bs f l).Perm l
 | 0,l=>sortP_perm l
 | f+1,l=>by
  unfold blkS
  split
  · refine ((sortP_perm _).append (blkS_perm bs f _)).trans ?_
    rw [List.take_append_drop]
  · exact sortP_perm l
theorem blkS_len (bs f:Nat) (l:List HP):(blkS bs f l).length=l.length:=(blkS_perm bs f l).length_eq
theorem Asc.drop {l:List HP} (h:Asc l) (n:Nat):Asc (l.drop n):=List.Pairwise.sublist (List.drop_sublist n l) h
theorem Asc.take {l:List HP} (h:Asc l) (n:Nat):Asc (l.take n):=List.Pairwise.sublist (List.take_sublist n l) h
theorem insc_at (X Y Z:List HP) (a b:Nat) (k:List HP→R2) (ha:a=X.length) (hb:b=X.length+Y.length) (hl:(X ++ (Y ++ Z)).length≤1000) (hA:Asc Y):insc (X ++ (Y ++ Z)) a b k=k (X ++ (sortP Y ++ Z)):=by
 unfold insc
 have hlen:(X ++ (Y ++ Z)).length=X.length+(Y.length+Z.length):=by simp
 have hpre:preI a b (X ++ (Y ++ Z)):=by
  unfold preI len'
  simp only [Int.toNat_natCast]
  rw [seg_mid X Y Z a b ha hb]
  exact ⟨by omega,by omega,by omega,hl,hA⟩
 rw [cdec_true.2 hpre,sel_true,Int.toNat_natCast,Int.toNat_natCast,segS_mid X Y Z a b ha hb]
theorem L45a_run (d F:Nat):∀ (f k:Nat) (X Q:List HP) (n a:Nat),Q.length≤f→f<k→a=X.length→n=X.length+Q.length→n≤1000→Asc Q→
 L45a d F k (X ++ Q) n 20 a (a+20:Nat)=L45b d F F (X ++ blkS 20 f Q) n 20:=by
 intro f
 induction f with
 | zero =>
  intro k X Q n a hQ hk ha hn hl hA
  obtain ⟨k,rfl⟩:∃ k',k=k'+1:=⟨k - 1,by omega⟩
  rw [L45a_eq,decide_eq_false (by omega),sel_false]
  have:=insc_at X Q [] a n (fun l=>L45b d F F l n 20) ha hn (by simp;omega) hA
  simpa [blkS] using this
 | succ f ih =>
  intro k X Q n a hQ hk ha hn hl hA
  obtain ⟨k,rfl⟩:∃ k',k=k'+1:=⟨k - 1,by omega⟩
  unfold blkS
  by_cases h:20≤Q.length
  · rw [L45a_eq,decide_eq_true (by omega),sel_true,if_pos h]
    have e1:IT.wrap (((a+20:Nat):Int)+20)=((a+20+20:Nat):Int):=by rw [wr (by omega) (by omega)];omega
    have ht:(Q.take 20).length=20:=by rw [List.length_take];omega
    have:=insc_at X (Q.take 20) (Q.drop 20) a (a+20) (fun l=>L45a d F k l n 20 (a+20:Nat) (IT.wrap (((a+20:Nat):Int)+20))) ha (by omega) (by rw [List.take_append_drop,List.length_append];omega) (hA.take 20)
    rw [List.take_append_drop] at this
    refine this.trans ?_
    rw [e1]
    have h3:=ih k (X ++ sortP (Q.take 20)) (Q.drop 20) n (a+20) (by rw [List.length_drop];omega) (by omega) (by rw [List.length_append,sortP_len];omega) (by rw [List.length_append,sortP_len,List.length_drop];omega) hl (hA.drop 20)
    rw [show X ++ (sortP (Q.take 20) ++ Q.drop 20)=(X ++ sortP (Q.take 20)) ++ Q.drop 20 by simp,h3]
    simp
  · rw [L45a_eq,decide_eq_false (by omega),sel_false,if_neg h]
    have:=insc_at X Q [] a n (fun l=>L45b d F F l n 20) ha hn (by simp;omega) hA
    simpa using this
theorem symc_at (d:Nat) (X A B Z:List HP) (a m b:Nat) (k:List HP→R2) (ha:a=X.length) (hm:m=X.length+A.length) (hb:b=X.length+A.length+B.length) (hA1:1≤A.length) (hB1:1≤B.length) (hl:(X ++ (A ++ (B ++ Z))).length≤1000) (hd:1000≤2 ^ d) (hAB:Asc (A ++ B)) :
 symc d (X ++ (sortP A ++ (sortP B ++ Z))) a m b k=k (X ++ (sortP (A ++ B) ++ Z)):=by
 have hp:=List.pairwise_append.1 hAB
 have lA:=sortP_len A
 have lB:=sortP_len B
 have hlen:(X ++ (A ++ (B ++ Z))).length=X.length+(A.length+(B.length+Z.length)):=by simp
 have hlen':(X ++ (sortP A ++ (sortP B ++ Z))).length=X.length+(A.length+(B.length+Z.length)):=by simp [lA,lB]
 have hpm:(sortP A ++ sortP B).Perm (A ++ B):=(sortP_perm A).append (sortP_perm B)
 have hdif:Dif (sortP A ++ sortP B):=(Asc.dif hAB).perm hpm.symm
 have hpre:preM d a m b (X ++ (sortP A ++ (sortP B ++ Z))):=by
  unfold preM len'
  simp only [Int.toNat_natCast]
  have s1:seg a m (X ++ (sortP A ++ (sortP B ++ Z)))=sortP A:=seg_mid X (sortP A) (sortP B ++ Z) a m ha (by omega)
  have s2:seg m b (X ++ (sortP A ++ (sortP B ++ Z)))=sortP B:=by
   have:=seg_mid (X ++ sortP A) (sortP B) Z m b (by simp;omega) (by simp;omega)
   simpa using this
  have s3:seg a b (X ++ (sortP A ++ (sortP B ++ Z)))=sortP A ++ sortP B:=by
   have:=seg_mid X (sortP A ++ sortP B) Z a b ha (by simp;omega)
   simpa using this
  rw [s1,s2,s3]
  have h3:((1000:Nat):Int)≤((2 ^ d:Nat):Int):=Int.ofNat_le.2 hd
  rw [Int.natCast_pow] at h3
  have h3':(1000:Int)≤2 ^ d:=h3
  exact ⟨by omega,by omega,by omega,by omega,by omega,by omega,hdif,sortP_srt A (Asc.dif hp.1),sortP_srt B (Asc.dif hp.2.1),fun x hx y hy=>hp.2.2 x ((sortP_perm A).mem_iff.1 hx) y ((sortP_perm B).mem_iff.1 hy)⟩
 unfold symc
 rw [cdec_true.2 hpre,sel_true,Int.toNat_natCast,Int.toNat_natCast]
 have:=segS_mid X (sortP A ++ sortP B) Z a b ha (by simp;omega)
 rw [show X ++ (sortP A ++ (sortP B ++ Z))=X ++ ((sortP A ++ sortP B) ++ Z) by simp,this]
 have:sortP (sortP A ++ sortP B)=sortP (A ++ B):=srt_unique ((sortP_perm _).trans (hpm.trans (sortP_perm _).symm)) (sortP_srt _ hdif) (sortP_srt _ (Asc.dif hAB))
 rw [this]
theorem blkS_small (bs:Nat) (hbs:1≤bs):∀ (f:Nat) (Q:List HP),Q.length≤bs→blkS bs f Q=sortP Q
 | 0,Q,h=>rfl
 | f+1,Q,h=>by
  unfold blkS
  split
  · rw [List.take_of_length_le h,List.drop_of_length_le h,blkS_small bs hbs f [] (by simp)]
    simp [sortP]
  · rfl
theorem blkS_fuel (bs:Nat) (hbs:1≤bs):∀ (f g:Nat) (Q:List HP),Q.length≤f→Q.length≤g→blkS bs f Q=blkS bs g Q
 | 0,g,Q,h,_=>by
  have:Q=[]:=List.length_eq_zero_iff.1 (by omega)
  subst this
  rw [blkS_small bs hbs 0 [] (by simp),blkS_small bs hbs g [] (by simp)]
 | f+1,0,Q,_,h=>by
  have:Q=[]:=List.length_eq_zero_iff.1 (by omega)
  subst this
  rw [blkS_small bs hbs 0 [] (by simp),blkS_small bs hbs (f+1) [] (by simp)]
 | f+1,g+1,Q,h,h'=>by
  unfold blkS
  split
  · rw [blkS_fuel bs hbs f g (Q.drop bs) (by rw [List.length_drop];omega) (by rw [List.length_drop];omega)]
  · rfl
theorem L45c_run (d F ko:Nat) (hd:1000≤2 ^ d) (bs:Nat) (hbs:1≤bs) (hbs2:bs≤1000):∀ (f k:Nat) (X Q:List HP) (n a:Nat),Q.length≤f→f<k→a=X.length→n=X.length+Q.length→n≤1000→Asc Q→
 L45c d F ko k (X ++ blkS bs f Q) n bs a (a+2 * bs:Nat)=L45b d F ko (X ++ blkS (2 * bs) f Q) n (2 * bs:Nat):=by
 intro f
 induction f using Nat.strongRecOn with
 | _ f ih =>
 intro k X Q n a hQ hk ha hn hl hA
 obtain ⟨k,rfl⟩:∃ k',k=k'+1:=⟨k - 1,by omega⟩
 have e0:IT.wrap ((a:Int)+bs)=((a+bs:Nat):Int):=by rw [wr (by omega) (by omega)];omega
 have e1:IT.wrap ((bs:Int) * 2)=((2 * bs:Nat):Int):=by rw [wr (by omega) (by omega)];omega
 have e2:IT.wrap (2 * (bs:Int))=((2 * bs:Nat):Int):=by rw [wr (by omega) (by omega)];omega
 have e3:IT.wrap (((a+2 * bs:Nat):Int)+((2 * bs:Nat):Int))=((a+2 * bs+2 * bs:Nat):Int):=by rw [wr (by omega) (by omega)];omega
 rw [L45c_eq,e0,e1,e2,e3]
 by_cases h:2 * bs≤Q.length
 · obtain ⟨f1,rfl⟩:∃ f1,f=f1+2:=⟨f - 2,by omega⟩
   rw [decide_eq_true (by omega),sel_true]
   have b1:blkS bs (f1+2) Q=sortP (Q.take bs) ++ (sortP ((Q.drop bs).take bs) ++ blkS bs f1 ((Q.drop bs).drop bs)):=by
    show (if bs≤Q.length then sortP (Q.take bs) ++ (if bs≤(Q.drop bs).length then _ else _) else _)=_
    rw [if_pos (by omega),if_pos (by rw [List.length_drop];omega)]
   have htake:Q.take bs ++ (Q.drop bs).take bs=Q.take (2 * bs):=by
    rw [show 2 * bs=bs+bs by omega,List.take_add]
   have hdrop:(Q.drop bs).drop bs=Q.drop (2 * bs):=by rw [List.drop_drop,show bs+bs=2 * bs by omega]
   have l1:(Q.take bs).length=bs:=by rw [List.length_take];omega
   have l2:((Q.drop bs).take bs).length=bs:=by rw [List.length_take,List.length_drop];omega
   have:=symc_at d X (Q.take bs) ((Q.drop bs).take bs) (blkS bs f1 ((Q.drop bs).drop bs)) a (a+bs) (a+2 * bs) (fun l=>L45c d F ko k l n bs (a+2 * bs:Nat) (a+2 * bs+2 * bs:Nat)) ha (by omega) (by omega) (by omega) (by omega)
    (by rw [List.length_append,List.length_append,List.length_append,l1,l2,blkS_len,List.length_drop,List.length_drop];omega) hd (by rw [htake];exact hA.take _)
   rw [b1]
   refine this.trans ?_
   rw [htake,hdrop]
   have l3:(sortP (Q.take (2 * bs))).length=2 * bs:=by rw [sortP_len,List.length_take];omega
   have hbf:blkS bs f1 (Q.drop (2 * bs))=blkS bs (f1+1) (Q.drop (2 * bs)):=blkS_fuel bs hbs _ _ _ (by rw [List.length_drop];omega) (by rw [List.length_drop];omega)
   have h3:=ih (f1+1) (by omega) k (X ++ sortP (Q.take (2 * bs))) (Q.drop (2 * bs)) n (a+2 * bs) (by rw [List.length_drop];omega) (by omega) (by rw [List.length_append,l3];omega) (by rw [List.length_append,l3,List.length_drop];omega) hl (hA.drop _)
   rw [hbf,show X ++ (sortP (Q.take (2 * bs)) ++ blkS bs (f1+1) (Q.drop (2 * bs)))=(X ++ sortP (Q.take (2 * bs))) ++ blkS bs (f1+1) (Q.drop (2 * bs)) by simp,h3]
   have b2:blkS (2 * bs) (f1+2) Q=sortP (Q.take (2 * bs)) ++ blkS (2 * bs) (f1+1) (Q.drop (2 * bs)):=by
    show (if 2 * bs≤Q.length then _ else _)=_
    rw [if_pos h]
   rw [b2]
   simp
 · rw [decide_eq_false (by omega),sel_false]
   have hr:blkS (2 * bs) f Q=sortP Q:=blkS_small (2 * bs) (by omega) f Q (by omega)
   rw [hr]
   by_cases h4:bs<Q.length
   · obtain ⟨f1,rfl⟩:∃ f1,f=f1+1:=⟨f - 1,by omega⟩
     rw [decide_eq_true (by omega),sel_true]
     have b1:blkS bs (f1+1) Q=sortP (Q.take bs) ++ (sortP (Q.drop bs) ++ []):=by
      show (if bs≤Q.length then sortP (Q.take bs) ++ _ else _)=_
      rw [if_pos (by omega),blkS_small bs hbs f1 _ (by rw [List.length_drop];omega),List.append_nil]
     have l1:(Q.take bs).length=bs:=by rw [List.length_take];omega
     have l2:(Q.drop bs).length=Q.length - bs:=List.length_drop
     have:=symc_at d X (Q.take bs) (Q.drop bs) [] a (a+bs) n (fun l=>L45b d F ko l n (2 * bs:Nat)) ha (by omega) (by omega) (by omega) (by omega) (by rw [List.append_nil,List.take_append_drop,List.length_append];omega) hd (by rw [List.take_append_drop];exact hA)
     rw [b1]
     refine this.trans ?_
     rw [List.take_append_drop,List.append_nil]
   · rw [decide_eq_false (by omega),sel_false,blkS_small bs hbs f Q (by omega)]
theorem L45b_run (d F:Nat) (hd:1000≤2 ^ d) (hF:1001≤F) (Q:List HP) (hQ:Q.length≤1000) (hA:Asc Q):∀ (k bs:Nat),1≤bs→Q.length<k+bs→1≤k→L45b d F k (blkS bs Q.length Q) Q.length bs=endR (sortP Q):=by
 intro k
 induction k with
 | zero=>intro bs _ _ h;omega
 | succ k ih =>
  intro bs hbs hk _
  rw [L45b_eq]
  by_cases h:bs<Q.length
  · have e2:IT.wrap (2 * (bs:Int))=((0+2 * bs:Nat):Int):=by rw [wr (by omega) (by omega)];omega
    rw [decide_eq_true (by omega),sel_true,e2]
    have:=L45c_run d F k hd bs hbs (by omega) Q.length F [] Q Q.length 0 (Nat.le_refl _) (by omega) rfl (by simp) hQ hA
    rw [List.nil_append,List.nil_append] at this
    refine this.trans ?_
    exact ih (2 * bs) (by omega) (by omega) (by omega)
  · rw [decide_eq_false (by omega),sel_false,blkS_small bs hbs _ Q (by omega)]
theorem stable_run (d F:Nat) (hd:1000≤2 ^ d) (hF:1001≤F) (Q:List HP) (hQ:Q.length≤1000) (hA:Asc Q):ev45 d F Q Q.length=endR (sortP Q):=by
 rw [ev45_eq]
 have:=L45a_run d F Q.length F [] Q Q.length 0 (Nat.le_refl _) (by omega) rfl (by simp) hQ hA
 rw [List.nil_append,List.nil_append] at this
 refine this.trans ?_
 exact L45b_run d F hd hF Q hQ hA F 20 (by omega) (by omega) (by omega)
end Go.Proofs.Ytlfkfajodnkkhaa.Sh
