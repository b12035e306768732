/- AX 21: what the evaluator tells,it tells on: contracts that are the evaluator's own (a callee walked in its caller's walk). -/
import Derived.Test.YtlfkfajodnkkhaaAx14
namespace Go.Proofs.Ytlfkfajodnkkhaa.Ax
open Go Go.RowKit
set_option linter.unusedVariables false
set_option linter.unusedSimpArgs false
mutual
theorem lt_ids {n:Nat} : ∀ s:SV,s.lt n=true→s.ids (fun i=>Nat.blt i n)=true
 | .v _,_=>rfl
 | .ptr id _,h=>h
 | .elt id _ _ _,h=>h
 | .slc id _ _ _ _,h=>h
 | .all id,h=>h
 | .map id,h=>h
 | .fn _ fi ca,h=>by
  simp only [SV.lt,Bool.and_eq_true] at h
  simp only [SV.ids,lt_idsL fi h.1,lt_idsL ca h.2,Bool.and_true]
 | .agg l,h=>lt_idsL l h
 | .tup l,h=>lt_idsL l h
theorem lt_idsL {n:Nat} : ∀ l:List SV,ltL n l=true→idsL (fun i=>Nat.blt i n) l=true
 | [],_=>rfl
 | s :: l,h=>by
  simp only [ltL,Bool.and_eq_true] at h
  simp only [idsL,lt_ids s h.1,lt_idsL l h.2,Bool.and_true]
end
def KG (G:St→Option St) (p:Nat) (s:SV) (h:Hp):Option (SV × Hp):=match G ⟨[(0,s)],h,0⟩ with
 | none=>none
 | some σ=>match look σ.sl 0 with
  | none=>none
  | some s'=>cond (Nat.ble σ.nx (p+wide)) (forceV s' fun s''=>forceHp σ.hp fun h'=>some (s'',h')) none
def KO (p:Nat) (s:SV) (h:Hp):Option (SV × Hp):=KG (gcSt [0] p) p s h
def GOk (G:St→Option St) (p:Nat):Prop:=∀ (B:Nat→Prop) (w0:Base) (n:Nat) (σ σ':St),w0.pin≤p→G σ=some σ'→Wf w0.pin σ'∧∀ ρ a w,R B w0 n σ ρ a w→∃ ρ',R B w0 n σ' ρ' a w
theorem gc_GOk (p:Nat):GOk (gcSt [0] p) p:=fun B w0 n σ σ' hp h=>gcSt_ok hp h
def mr (m:Nat→Nat) (p lo i:Nat):Nat:=cond (Nat.blt i p) (m i) (lo+(i - p))
def AObj.isDead:AObj→Bool
 | .dead=>true
 | _=>false
theorem AObj.of_isDead {o:AObj} (h:o.isDead=true):o = .dead:=by cases o<;>first|rfl|cases h
def updGo (r:Nat→Nat) (H:Hp):Hp→List (Nat × AObj)
 | []=>[]
 | (i,_) :: l=>match look H i with
  | some o=>cond (o.own || o.isDead) ((r i,renO r o) :: updGo r H l) (updGo r H l)
  | none=>updGo r H l
theorem updGo_mem {r:Nat→Nat} {H:Hp} : ∀ {l:Hp} {j:Nat} {x:AObj},(j,x)∈updGo r H l→∃ i o,look H i=some o∧(o.own=true∨o = .dead)∧j=r i∧x=renO r o
 | [],_,_,h=>by cases h
 | (i,_) :: l,j,x,h=>by
  simp only [updGo] at h
  split at h
  · rename_i o ho
    cases hw:(o.own || o.isDead) with
    | false=>rw [hw] at h;exact updGo_mem h
    | true =>
     rw [hw] at h
     rw [Bool.or_eq_true] at hw
     rcases List.mem_cons.1 h with h|h
     · cases h;exact ⟨i,o,ho,hw.imp id AObj.of_isDead,rfl,rfl⟩
     · exact updGo_mem h
  · exact updGo_mem h
theorem look_key {H:Hp} {i:Nat} {o:AObj} (h:look H i=some o):∃ x,(i,x)∈H:=by
 induction H with
 | nil=>cases h
 | cons q l ih =>
  obtain ⟨k,y⟩:=q
  simp only [look] at h
  by_cases e:k=i
  · subst e;exact ⟨y,by simp⟩
  · rw [beq_no e] at h
    obtain ⟨x,hx⟩:=ih h
    exact ⟨x,by simp [hx]⟩
theorem updGo_has {r:Nat→Nat} {H:Hp} {i:Nat} {o:AObj} (h:look H i=some o) (hw:o.own=true∨o = .dead):∀ {l:Hp},(∃ x,(i,x)∈l)→∃ x,(r i,x)∈updGo r H l
 | [],⟨x,hx⟩=>by cases hx
 | (k,y) :: l,⟨x,hx⟩=>by
  simp only [updGo]
  rcases List.mem_cons.1 hx with hx|hx
  · cases hx
    rw [h]
    have hw':(o.own || o.isDead)=true:=by
     rcases hw with hw|hw
     · rw [hw];rfl
     · rw [hw];rfl
    simp only [hw',cond_true]
    exact ⟨_,List.mem_cons.2 (.inl rfl)⟩
  · obtain ⟨z,hz⟩:=updGo_has h hw ⟨x,hx⟩
    split
    · rename_i o' _
      cases (o'.own || o'.isDead)
      · exact ⟨z,hz⟩
      · exact ⟨z,List.mem_cons.2 (.inr hz)⟩
    · exact ⟨z,hz⟩
theorem look_puts_cases (l:List (Nat × AObj)):∀ (h:Hp) (i:Nat) (o:AObj),look (puts h l) i=some o→(i,o)∈l∨((∀ q∈l,q.1≠i)∧look h i=some o):=by
 induction l with
 | nil=>exact fun h i o ho=>.inr ⟨(fun q hq=>by cases hq),ho⟩
 | cons q l ih =>
  obtain ⟨k,x⟩:=q
  intro h i o ho
  rcases ih _ _ _ ho with h'|⟨h1,h'⟩
  · exact .inl (by simp [h'])
  · rw [look_put] at h'
    split at h'
    · rename_i e;subst e;cases h';exact .inl (by simp)
    · rename_i e
      refine .inr ⟨fun q hq=>?_,h'⟩
      rcases List.mem_cons.1 hq with hq|hq
      · subst hq;exact e
      · exact h1 q hq
inductive View (m:Nat→Nat):AObj→AObj→Prop where
 | own (ty:TypeId) (c:List SV):View m (.cells ty (renL m c)) (.cells ty c)
 | row (ty:TypeId) (s:List Sc) (l:List (TT s)):View m (.row ty s l) (.row ty s l)
 | mapo (ks vs:List Sc) (l:List (TT ks × TT vs)):View m (.mapo ks vs l) (.mapo ks vs l)
 | raw (o:Obj):View m (.raw o) (.raw o)
 | reads {o oc:AObj} (h:Reads m o oc):View m o oc
theorem View.ok {m:Nat→Nat} {ρ:Rho} {w:World} {L:Loc} {o oc:AObj} (h:View m o oc) (hk:OK ρ w L o):OK (fun i=>ρ (m i)) w L oc:=by
 cases h with
 | own ty c=>exact ⟨hk.1,hk.2.1,by rw [← denL_ren];exact hk.2.2⟩
 | row ty s l=>exact hk
 | mapo ks vs l=>exact hk
 | raw o=>exact hk
 | reads h=>exact h.ok hk
theorem View.of_own {m:Nat→Nat} {o oc:AObj} (h:View m o oc) (hw:oc.own=true):o.own=true:=by
 cases h with
 | own ty c=>rfl
 | row ty s l=>rfl
 | mapo ks vs l=>rfl
 | raw o=>rfl
 | reads h =>
  have:=h.shared
  cases oc<;>first|(cases hw;done)|(cases this;done)
theorem View.live {m:Nat→Nat} {o oc:AObj} (h:View m o oc):o.own=true∨o.shared=true:=by
 cases h with
 | own ty c=>exact .inl rfl
 | row ty s l=>exact .inl rfl
 | mapo ks vs l=>exact .inl rfl
 | raw o=>exact .inl rfl
 | reads h =>
  cases oc with
  | ro ty c =>
   rcases h with h|h<;>subst h
   · exact .inl rfl
   · exact .inr rfl
  | arg s l =>
   rcases h with ⟨_,h⟩|h<;>subst h
   · exact .inl rfl
   · exact .inr rfl
  | _=>cases h
section
variable {P:Program} {C:FuncId→Option Con} {cn:Nat→St→Option St} {F:Nat}
theorem con_ownW {G : St → Option St} {B : Nat → Prop} {f : FuncId} {fn : Func} {c0 : Code} (hf : P.funcs[f]? = some fn) (hname : (fn.name == "runtime.NumGoroutine") = false) (hbody : fn.body = some c0)
 {p:Nat} (args:List SV) (m:Nat→Nat) (hc:Hp) (r:SV) (hp':Hp) (hG:GOk G p) (ρ:Rho) (h:Hp) (w:World)
 (hcall:∀ (B2:Nat→Prop) (ρc:Rho),HR B2 ρc hc w→(∀ b,w.heap.size≤b→B2 b)→Calls P f (denL ρc args).toArray w fun e w'=>∃ ρ' s h',e = .returned (den ρ' s)∧KG G p s h'=some (r,hp')∧HR B2 ρ' h' w'∧Keeps B2 w w'∧(∀ i,i<p→ρ' i=ρc i))
 (lo:Nat) (hr:HR B ρ h w) (hfree:HFree lo (lo+wide) h) (up:∀ b,w.heap.size≤b→B b)
 (hwf:∀ i oc,look hc i=some oc→i<p∧oc.lt p=true) (hmf:∀ i,i<p→m i<lo∨lo+wide≤m i)
 (hviews:∀ i oc,look hc i=some oc→∃ o,look h (m i)=some o∧View m o oc)
 (hinj:∀ i j oc oc',look hc i=some oc→look hc j=some oc'→i≠j→oc.own=true→m i≠m j)
 (hown:∀ i oc,look hc i=some oc→oc.own=true→∃ o',look hp' i=some o'∧(o'.own=true∨o' = .dead)) :
 CallGives P f (denL ρ (renL m args)).toArray w fun v w'=>∃ ρ',Made B ρ h w lo (lo+wide) ⟨ren (mr m p lo) r,updGo (mr m p lo) hp' hp'⟩ ρ' v w':=by
 refine .inl ⟨Go.run_callFunc_enter' hf hname hbody _ _,?_⟩
 rw [denL_ren]
 obtain ⟨B2,hB2⟩:∃ B2:Nat→Prop,B2=fun b=>w.heap.size≤b∨∃ i oc,look hc i=some oc∧oc.own=true∧(ρ (m i)).nil=false∧(ρ (m i)).blk=b:=⟨_,rfl⟩
 have hBB:∀ b,B2 b→B b:=by
  intro b hb
  rw [hB2] at hb
  rcases hb with hb|⟨i,oc,h1,h2,h3,h4⟩
  · exact up b hb
  · obtain ⟨o,k1,k2⟩:=hviews i oc h1
    rw [← h4]
    exact hr.inB _ o k1 (k2.of_own h2) h3
 -- a caller's thing that is not among those that the callee owns: its block is out of reach
 have out:∀ j x,look h j=some x→x≠.dead→(ρ j).nil=false→(∀ i oc,look hc i=some oc→oc.own=true→m i≠j)→¬ B2 (ρ j).blk:=by
  intro j x hx hd hn hne hb
  rw [hB2] at hb
  rcases hb with hb|⟨i,oc,h1,h2,h3,h4⟩
  · have:=(hr.ok j x hx).lt hd hn
    omega
  · obtain ⟨o,k1,k2⟩:=hviews i oc h1
    have ho:=k2.of_own h2
    by_cases hxo:x.own=true
    · exact hr.inj (m i) j o x k1 hx ho hxo h3 hn (hne i oc h1 h2) h4
    · have hxs:x.shared=true:=by cases x<;>first|rfl|(exact absurd rfl hd)|(exact absurd rfl hxo)
      exact hr.arg j x hx hxs hn (h4 ▸ hr.inB (m i) o k1 ho h3)
 have hrc:HR B2 (fun i=>ρ (m i)) hc w:=by
  refine ⟨fun i oc ho=>?_,fun i oc ho hw hn=>?_,fun i oc ho hs hn=>?_,fun i j oc oc' ho ho' hw hw' hn hn' hij=>?_⟩
  · obtain ⟨o,k1,k2⟩:=hviews i oc ho
    exact k2.ok (hr.ok _ _ k1)
  · rw [hB2];exact .inr ⟨i,oc,ho,hw,hn,rfl⟩
  · obtain ⟨o,k1,k2⟩:=hviews i oc ho
    refine out (m i) o k1 (fun e=>?_) hn (fun i' oc' h1 h2=>?_)
    · rcases k2.live with k|k<;>(subst e;cases k)
    · exact hinj i' i oc' oc h1 ho (fun e=>by subst e;rw [h1] at ho;cases ho;cases oc<;>first|(cases h2;done)|(cases hs;done)) h2
  · obtain ⟨o,k1,k2⟩:=hviews i oc ho
    obtain ⟨o',k1',k2'⟩:=hviews j oc' ho'
    exact hr.inj (m i) (m j) o o' k1 k1' (k2.of_own hw) (k2'.of_own hw') hn hn' (hinj i j oc oc' ho ho' hij hw)
 have hsub:∀ b,w.heap.size≤b→B2 b:=fun b hb=>by rw [hB2];exact .inl hb
 refine (hcall B2 (fun i=>ρ (m i)) hrc hsub).mono ?_
 rintro e w' ⟨ρ1,s,h1,rfl,hk,hrf,hks,hpn⟩
 refine ⟨_,rfl,?_⟩
 unfold KG at hk
 cases hg:G ⟨[(0,s)],h1,0⟩ with
 | none=>rw [hg] at hk;cases hk
 | some σ =>
  rw [hg] at hk
  simp only at hk
  cases hl:look σ.sl 0 with
  | none=>rw [hl] at hk;cases hk
  | some s' =>
   rw [hl] at hk
   simp only [forceV_eq,forceHp_eq] at hk
   cases hb:Nat.ble σ.nx (p+wide) with
   | false=>rw [hb] at hk;cases hk
   | true =>
    rw [hb] at hk
    cases hk
    have hN:=Nat.le_of_ble_eq_true hb
    have hR:R B2 ⟨w,fun i=>ρ (m i),p,[]⟩ 1 ⟨[(0,s)],h1,0⟩ ρ1 { tmps:=#[den ρ1 s],defers:=[] } w':=by
     refine ⟨rfl,rfl,fun t s0 hs=>?_,hrf,hsub,hks,hpn⟩
     simp only [look] at hs
     by_cases e:0=t
     · subst e;cases hs;exact ⟨by omega,rfl⟩
     · rw [beq_no e] at hs;cases hs
    obtain ⟨hwf',hgo⟩:=hG B2 ⟨w,fun i=>ρ (m i),p,[]⟩ 1 _ _ (Nat.le_refl p) hg
    obtain ⟨ρ2,hR2⟩:=hgo _ _ _ hR
    have hv:den ρ1 s=den ρ2 r:=(hR2.sl 0 r hl).2
    have hpn2:∀ i,i<p→ρ2 i=ρ (m i):=hR2.pn
    obtain ⟨ρo,hρo⟩:∃ ρo:Rho,ρo=fun j=>if lo≤j∧j<lo+wide then ρ2 (p+(j - lo)) else ρ j:=⟨_,rfl⟩
    have hout:∀ j,j<lo∨lo+wide≤j→ρo j=ρ j:=fun j hj=>by rw [hρo];exact if_neg (by omega)
    have key:∀ i,i<σ.nx→ρo (mr m p lo i)=ρ2 i:=by
     intro i hi
     unfold mr
     by_cases hip:i<p
     · rw [lt_blt hip]
       simp only [cond_true]
       rw [hout _ (hmf i hip),hpn2 i hip]
     · rw [show Nat.blt i p=false from by cases hx:Nat.blt i p with|false=>rfl|true=>exact absurd (blt_lt hx) hip]
       simp only [cond_false]
       rw [hρo]
       show (if lo≤lo+(i - p)∧lo+(i - p)<lo+wide then ρ2 (p+(lo+(i - p) - lo)) else _)=_
       rw [if_pos (by omega)]
       congr 1
       omega
    have denK:∀ s0:SV,s0.lt σ.nx=true→den ρo (ren (mr m p lo) s0)=den ρ2 s0:=fun s0 h0=>by
     rw [den_ren];exact den_ids (fun i hi=>key i (blt_lt hi)) s0 (lt_ids s0 h0)
    have denKL:∀ l0:List SV,ltL σ.nx l0=true→denL ρo (renL (mr m p lo) l0)=denL ρ2 l0:=fun l0 h0=>by
     rw [denL_ren];exact denL_ids (fun i hi=>key i (blt_lt hi)) l0 (lt_idsL l0 h0)
    have own':∀ o:AObj,(renO (mr m p lo) o).own=o.own:=fun o=>by cases o<;>rfl
    have hasU:∀ i oc,look hc i=some oc→oc.own=true→∃ x,(m i,x)∈updGo (mr m p lo) σ.hp σ.hp:=by
     intro i oc h2 h3
     obtain ⟨o',k1,k2⟩:=hown i oc h2 h3
     obtain ⟨x,hx⟩:=updGo_has (r:=mr m p lo) k1 k2 (look_key k1)
     have:mr m p lo i=m i:=by unfold mr;rw [lt_blt (hwf i oc h2).1];rfl
     rw [this] at hx
     exact ⟨x,hx⟩
    have old:∀ j x,look h j=some x→(∀ q∈updGo (mr m p lo) σ.hp σ.hp,q.1≠j)→x≠.dead→(ρ j).nil=false→¬ B2 (ρ j).blk:=by
     intro j x hx hq hd hn
     refine out j x hx hd hn (fun i oc h2 h3 e=>?_)
     obtain ⟨y,hy⟩:=hasU i oc h2 h3
     exact hq _ hy e
    refine ⟨ρo,⟨by rw [hv];exact (denK r (hwf'.sl 0 r hl)).symm,fun i hi=>hout i hi,⟨?_,?_,?_,?_⟩,⟨hks.os,hks.tape,hks.output,hks.size,fun k hk=>hks.block k (fun hb=>hk (hBB k hb))⟩⟩⟩
    · intro j x hx
      rcases look_puts_cases _ _ _ _ hx with hx|⟨hq,hx⟩
      · obtain ⟨i,o,g1,g2,rfl,rfl⟩:=updGo_mem hx
        have hlt:=hwf'.hp i o g1
        rw [key i hlt.1]
        have hk:=hR2.hr.ok i o g1
        rcases g2 with g2|g2
        · cases o with
          | cells ty c=>exact ⟨hk.1,hk.2.1,by rw [denKL c hlt.2];exact hk.2.2⟩
          | row ty s l=>exact hk
          | mapo ks vs l=>exact hk
          | raw o=>exact hk
          | _=>cases g2
        · subst g2;trivial
      · by_cases hd:x = .dead
        · subst hd;trivial
        · have hj:=hfree j x hx
          rw [hout j hj.1]
          exact (hr.ok j x hx).keep (fun ty' c' e=>denL_free (lo:=lo) (hi:=lo+wide) hout c' (free_cells hj.2 ty' c' e)) (fun hn=>hks.block _ (old j x hx hq hd hn)) hks.size
    · intro j x hx hw hn
      rcases look_puts_cases _ _ _ _ hx with hx|⟨hq,hx⟩
      · obtain ⟨i,o,g1,g2,rfl,rfl⟩:=updGo_mem hx
        rw [key i (hwf'.hp i o g1).1] at hn ⊢
        exact hBB _ (hR2.hr.inB i o g1 (by rw [own'] at hw;exact hw) hn)
      · rw [hout j (hfree j x hx).1] at hn ⊢
        exact hr.inB j x hx hw hn
    · intro j x hx hs hn
      rcases look_puts_cases _ _ _ _ hx with hx|⟨hq,hx⟩
      · obtain ⟨i,o,g1,g2,rfl,rfl⟩:=updGo_mem hx
        rcases g2 with g2|g2
        · cases o<;>first|(cases g2;done)|(cases hs;done)
        · subst g2;cases hs
      · rw [hout j (hfree j x hx).1] at hn ⊢
        exact hr.arg j x hx hs hn
    · intro i j x y hx hy hwx hwy hn hn' hij
      rcases look_puts_cases _ _ _ _ hx with hx|⟨hq,hx⟩
      · obtain ⟨a,o,g1,g2,rfl,rfl⟩:=updGo_mem hx
        rw [key a (hwf'.hp a o g1).1] at hn ⊢
        rcases look_puts_cases _ _ _ _ hy with hy|⟨hq',hy⟩
        · obtain ⟨b,o',g1',g2',rfl,rfl⟩:=updGo_mem hy
          rw [key b (hwf'.hp b o' g1').1] at hn' ⊢
          exact hR2.hr.inj a b o o' g1 g1' (by rw [own'] at hwx;exact hwx) (by rw [own'] at hwy;exact hwy) hn hn' (fun e=>hij (by rw [e]))
        · rw [hout j (hfree j y hy).1] at hn' ⊢
          intro e
          refine old j y hy hq' (fun e'=>by subst e';cases hwy) hn' ?_
          rw [← e]
          exact hR2.hr.inB a o g1 (by rw [own'] at hwx;exact hwx) hn
      · rw [hout i (hfree i x hx).1] at hn ⊢
        rcases look_puts_cases _ _ _ _ hy with hy|⟨hq',hy⟩
        · obtain ⟨b,o',g1',g2',rfl,rfl⟩:=updGo_mem hy
          rw [key b (hwf'.hp b o' g1').1] at hn' ⊢
          intro e
          refine old i x hx hq (fun e'=>by subst e';cases hwx) hn ?_
          rw [e]
          exact hR2.hr.inB b o' g1' (by rw [own'] at hwy;exact hwy) hn'
        · rw [hout j (hfree j y hy).1] at hn' ⊢
          exact hr.inj i j x y hx hy hwx hwy hn hn' hij
theorem con_ownG {G : St → Option St} {B : Nat → Prop} {f : FuncId} {fn : Func} {c0 : Code} (hm : P.follows .mixedOrders = true) (hf : P.funcs[f]? = some fn) (hname : (fn.name == "runtime.NumGoroutine") = false) (hbody : fn.body = some c0)
 (hC:∀ B' g φ,C g=some φ→ConOk P B' g φ) {p:Nat} (hcn:∀ B' (w0:Base),w0.pin≤p→CnOk cn B' w0 fn.ntmps) (args:List SV) (m:Nat→Nat) (hc:Hp) (r:SV) (hp':Hp)
 (hG:GOk G p) (hev:evFn P C cn F fn args hc p (KG G p)=some (r,hp'))
 (ρ:Rho) (h:Hp) (w:World) (lo:Nat) (hr:HR B ρ h w) (hfree:HFree lo (lo+wide) h) (up:∀ b,w.heap.size≤b→B b)
 (hargs:ltL p args=true) (hwf:∀ i oc,look hc i=some oc→i<p∧oc.lt p=true) (hmf:∀ i,i<p→m i<lo∨lo+wide≤m i)
 (hviews:∀ i oc,look hc i=some oc→∃ o,look h (m i)=some o∧View m o oc)
 (hinj:∀ i j oc oc',look hc i=some oc→look hc j=some oc'→i≠j→oc.own=true→m i≠m j)
 (hown:∀ i oc,look hc i=some oc→oc.own=true→∃ o',look hp' i=some o'∧(o'.own=true∨o' = .dead)) :
 CallGives P f (denL ρ (renL m args)).toArray w fun v w'=>∃ ρ',Made B ρ h w lo (lo+wide) ⟨ren (mr m p lo) r,updGo (mr m p lo) hp' hp'⟩ ρ' v w' :=
 con_ownW hf hname hbody args m hc r hp' hG ρ h w (fun B2 ρc hrc hsub=>evFn_sound hm hf (hC _) hev _ w ⟨w,ρc,p,[]⟩ rfl (fun _ _=>rfl) (Nat.le_refl _) (hcn _ _ (Nat.le_refl _)) hrc hwf hargs hsub) lo hr hfree up hwf hmf hviews hinj hown
theorem con_own {B : Nat → Prop} {f : FuncId} {fn : Func} {c0 : Code} (hm : P.follows .mixedOrders = true) (hf : P.funcs[f]? = some fn) (hname : (fn.name == "runtime.NumGoroutine") = false) (hbody : fn.body = some c0)
 (hC:∀ B' g φ,C g=some φ→ConOk P B' g φ) {p:Nat} (hcn:∀ B' (w0:Base),w0.pin≤p→CnOk cn B' w0 fn.ntmps) (args:List SV) (m:Nat→Nat) (hc:Hp) (r:SV) (hp':Hp)
 (hev:evFn P C cn F fn args hc p (KO p)=some (r,hp'))
 (ρ:Rho) (h:Hp) (w:World) (lo:Nat) (hr:HR B ρ h w) (hfree:HFree lo (lo+wide) h) (up:∀ b,w.heap.size≤b→B b)
 (hargs:ltL p args=true) (hwf:∀ i oc,look hc i=some oc→i<p∧oc.lt p=true) (hmf:∀ i,i<p→m i<lo∨lo+wide≤m i)
 (hviews:∀ i oc,look hc i=some oc→∃ o,look h (m i)=some o∧View m o oc)
 (hinj:∀ i j oc oc',look hc i=some oc→look hc j=some oc'→i≠j→oc.own=true→m i≠m j)
 (hown:∀ i oc,look hc i=some oc→oc.own=true→∃ o',look hp' i=some o'∧(o'.own=true∨o' = .dead)) :
 CallGives P f (denL ρ (renL m args)).toArray w fun v w'=>∃ ρ',Made B ρ h w lo (lo+wide) ⟨ren (mr m p lo) r,updGo (mr m p lo) hp' hp'⟩ ρ' v w' :=
 con_ownG hm hf hname hbody hC hcn args m hc r hp' (gc_GOk p) hev ρ h w lo hr hfree up hargs hwf hmf hviews hinj hown
end
end Go.Proofs.Ytlfkfajodnkkhaa.Ax
namespace Go.Proofs.Ytlfkfajodnkkhaa.Ax
open Go Go.RowKit
set_option linter.unusedVariables false
set_option linter.unusedSimpArgs false
theorem Rd.runK_nat {α:Type} (h:Hp) (r:Rd α):∀ {β:Type} (l:List Nat) (K:α→List Nat→Option β) (b:β),r.runK h l K=some b→∃ a ids,∀ (γ:Type) (K':α→List Nat→Option γ),r.runK h l K'=K' a ids:=by
 induction r with
 | ret a=>exact fun l K b hb=>⟨a,l,fun γ K'=>rfl⟩
 | fail=>exact fun l K b hb=>by cases hb
 | obj id k ih =>
  intro β l K b hb
  simp only [Rd.runK] at hb ⊢
  cases ho:look h id with
  | none=>rw [ho] at hb;cases hb
  | some o=>rw [ho] at hb;exact ih o _ _ _ hb
 | br c t e iht ihe =>
  intro β l K b hb
  cases c with
  | true=>exact iht _ _ _ hb
  | false=>exact ihe _ _ _ hb
 | opt x k ih =>
  intro β l K b hb
  cases x with
  | none=>cases hb
  | some y=>exact ih y _ _ _ hb
 | cps f nat k ih =>
  intro β l K b hb
  obtain ⟨y,hy⟩:=nat _ _ _ hb
  simp only [Rd.runK,hy] at hb ⊢
  exact ih y _ _ _ hb
section
variable {E:Oper→(Operand→Option SV)→Nat→Rd Out} {n:Nat}
theorem evOps_nat {ops:Array Oper} {n0:Nat} : ∀ (l:List Oper) (i:Nat) (σ:St) (rs:List Rec) {β:Type} (K:St→List Rec→Option β) (b:β),evOps E n ops n0 i l σ rs K=some b→∃ σ' rs',∀ (γ:Type) (K':St→List Rec→Option γ),evOps E n ops n0 i l σ rs K'=K' σ' rs'
 | [],i,σ,rs,β,K,b,h=>⟨σ,rs,fun γ K'=>rfl⟩
 | o :: l,i,σ,rs,β,K,b,h=>by
  simp only [evOps,forceSt_eq] at h ⊢
  cases hk:dstOk n o.dst with
  | false=>rw [hk] at h;cases h
  | true =>
   rw [hk] at h
   simp only [cond_true] at h ⊢
   have exec:∀ (τ:St),((E o (evo τ) (n0+wide * i)).runK τ.hp [] fun out ids=>evOps E n ops n0 (i+1) l (τ.app o.dst out) (⟨i,out,ids.reverse⟩ :: rs) K)=some b→
    ∃ σ' rs',∀ (γ:Type) (K':St→List Rec→Option γ),((E o (evo τ) (n0+wide * i)).runK τ.hp [] fun out ids=>evOps E n ops n0 (i+1) l (τ.app o.dst out) (⟨i,out,ids.reverse⟩ :: rs) K')=K' σ' rs':=by
    intro τ hr
    obtain ⟨out,ids,h1⟩:=Rd.runK_nat _ _ _ _ _ hr
    rw [h1] at hr
    obtain ⟨σ',rs',h2⟩:=evOps_nat l (i+1) _ _ K b hr
    exact ⟨σ',rs',fun γ K'=>by rw [h1];exact h2 γ K'⟩
   cases hg:o.guard with
   | none=>rw [hg] at h;exact exec σ h
   | some gw =>
    obtain ⟨g,want⟩:=gw
    rw [hg] at h
    simp only at h ⊢
    cases hy:ysv ops σ g with
    | none =>
     rw [hy] at h
     simp only at h ⊢
     cases hu:yun ops σ g with
     | false=>rw [hu] at h;cases h
     | true=>rw [hu] at h;exact evOps_nat l (i+1) _ _ K b h
    | some c =>
     rw [hy] at h
     simp only at h ⊢
     cases want<;>cases c
     · exact exec _ h
     · exact evOps_nat l (i+1) _ _ K b h
     · exact evOps_nat l (i+1) _ _ K b h
     · exact exec _ h
theorem evReg_nat {ops:Array Oper} {draw:Bool} {σ:St} {β:Type} {K:St→Option β} {b:β} (h:evReg E n ops draw σ K=some b):∃ σ',∀ (γ:Type) (K':St→Option γ),evReg E n ops draw σ K'=K' σ':=by
 obtain ⟨sl,hp,nx⟩:=σ
 unfold evReg at h ⊢
 simp only at h ⊢
 obtain ⟨σ',rs',h1⟩:=evOps_nat _ _ _ _ _ _ h
 rw [h1] at h
 cases hb:regOk ops nx draw rs'.reverse with
 | false=>rw [hb] at h;cases h
 | true =>
  refine ⟨⟨σ'.sl,σ'.hp,nx+wide * ops.size⟩,fun γ K'=>?_⟩
  rw [h1,hb,forceN_eq]
  rfl
variable {cn:Nat→St→Option St} {F:Nat}
theorem ev_nat:∀ (c:Code) (σ:St) {β:Type} (K:Ex→St→Option β) (b:β),ev E n cn F c σ K=some b→∃ e σ',∀ (γ:Type) (K':Ex→St→Option γ),ev E n cn F c σ K'=K' e σ'
 | .skip,σ,β,K,b,h=>⟨.normal,σ,fun γ K'=>rfl⟩
 | .region id ops draw,σ,β,K,b,h=>by
  obtain ⟨σ',h1⟩:=evReg_nat (K:=K .normal) h
  exact ⟨.normal,σ',fun γ K'=>h1 γ (K' .normal)⟩
 | .seq x y,σ,β,K,b,h=>by
  obtain ⟨e,σ1,h1⟩:=ev_nat x σ _ b h
  have h':(match (generalizing:=false) e with | .normal=>ev E n cn F y σ1 K | .exit id=>K (.exit id) σ1 | .ret=>K .ret σ1)=some b:=(h1 _ _).symm.trans h
  cases e with
  | normal =>
   obtain ⟨e2,σ2,h2⟩:=ev_nat y σ1 K b h'
   exact ⟨e2,σ2,fun γ K'=>(h1 γ _).trans (h2 γ K')⟩
  | exit id=>exact ⟨.exit id,σ1,fun γ K'=>h1 γ _⟩
  | ret=>exact ⟨.ret,σ1,fun γ K'=>h1 γ _⟩
 | .cond c x y,σ,β,K,b,h=>by
  simp only [ev,forceSt_eq] at h ⊢
  split at h
  · rename_i t ht
    cases t with
    | true =>
     obtain ⟨e,σ',h1⟩:=ev_nat x _ K b h
     exact ⟨e,σ',fun γ K'=>h1 γ K'⟩
    | false =>
     obtain ⟨e,σ',h1⟩:=ev_nat y _ K b h
     exact ⟨e,σ',fun γ K'=>h1 γ K'⟩
  · cases h
 | .block id c,σ,β,K,b,h=>by
  obtain ⟨e,σ1,h1⟩:=ev_nat c σ _ b h
  have h':(match (generalizing:=false) e with | .normal=>K .normal σ1 | .exit j=>cond (Nat.beq j id) (K .normal σ1) (K (.exit j) σ1) | .ret=>K .ret σ1)=some b:=(h1 _ _).symm.trans h
  cases e with
  | normal=>exact ⟨.normal,σ1,fun γ K'=>h1 γ _⟩
  | exit j =>
   cases hj:Nat.beq j id with
   | true=>exact ⟨.normal,σ1,fun γ K'=>by refine (h1 γ _).trans ?_;simp only [hj,cond_true]⟩
   | false=>exact ⟨.exit j,σ1,fun γ K'=>by refine (h1 γ _).trans ?_;simp only [hj,cond_false]⟩
  | ret=>exact ⟨.ret,σ1,fun γ K'=>h1 γ _⟩
 | .loop c,σ,β,K,b,h=>by
  simp only [ev] at h ⊢
  cases hc:cn (key c) σ with
  | none=>rw [hc] at h;cases h
  | some σ0 =>
   rw [hc] at h
   simp only at h ⊢
   clear hc
   have go:∀ (k:Nat) (σ1:St),iter k (fun rec σ1=>ev E n cn F c σ1 fun e σ'=>match e with
    | .normal=>match cn (key c) σ' with
     | none=>none
     | some σ2=>rec σ2
    | .exit id=>K (.exit id) σ'
    | .ret=>K .ret σ') σ1=some b→∃ e σ',∀ (γ:Type) (K':Ex→St→Option γ),iter k (fun rec σ1=>ev E n cn F c σ1 fun e σ'=>match e with
    | .normal=>match cn (key c) σ' with
     | none=>none
     | some σ2=>rec σ2
    | .exit id=>K' (.exit id) σ'
    | .ret=>K' .ret σ') σ1=K' e σ':=by
    intro k
    induction k with
    | zero=>intro σ1 h;cases h
    | succ k ih =>
     intro σ1 h
     simp only [iter] at h ⊢
     obtain ⟨e,σ',h1⟩:=ev_nat c σ1 _ b h
     rw [h1] at h
     cases e with
     | normal =>
      simp only at h
      cases hc:cn (key c) σ' with
      | none=>rw [hc] at h;cases h
      | some σ2 =>
       rw [hc] at h
       obtain ⟨e2,σ3,h2⟩:=ih σ2 h
       refine ⟨e2,σ3,fun γ K'=>?_⟩
       rw [h1]
       simp only [hc]
       exact h2 γ K'
     | exit id=>exact ⟨.exit id,σ',fun γ K'=>by rw [h1]⟩
     | ret=>exact ⟨.ret,σ',fun γ K'=>by rw [h1]⟩
   exact go F σ0 h
 | .label _,σ,β,K,b,h=>⟨.normal,σ,fun γ K'=>rfl⟩
 | .exit id,σ,β,K,b,h=>⟨.exit id,σ,fun γ K'=>rfl⟩
 | .ret,σ,β,K,b,h=>⟨.ret,σ,fun γ K'=>rfl⟩
 | .scope _,σ,β,K,b,h=>by cases h
end
section
variable {P:Program} {C:FuncId→Option Con} {cn:Nat→St→Option St} {F:Nat}
theorem evFn_nat {fn:Func} {args:List SV} {hp:Hp} {nx:Nat} {β:Type} {K:SV→Hp→Option β} {b:β} (h:evFn P C cn F fn args hp nx K=some b):∃ s h',∀ (γ:Type) (K':SV→Hp→Option γ),evFn P C cn F fn args hp nx K'=K' s h':=by
 unfold evFn at h ⊢
 cases hb:fn.body with
 | none=>rw [hb] at h;cases h
 | some c =>
  rw [hb] at h
  simp only at h ⊢
  cases hn:Nat.ble args.length fn.ntmps with
  | false=>rw [hn] at h;cases h
  | true =>
   rw [hn] at h
   simp only [cond_true] at h ⊢
   obtain ⟨e,σ',h1⟩:=ev_nat c _ _ b h
   rw [h1] at h
   cases e with
   | exit id=>cases h
   | normal =>
    simp only at h
    cases hr:resS P σ' fn.results.toList with
    | none=>rw [hr] at h;cases h
    | some l=>exact ⟨resV l,σ'.hp,fun γ K'=>by rw [h1];simp only [hr]⟩
   | ret =>
    simp only at h
    cases hr:resS P σ' fn.results.toList with
    | none=>rw [hr] at h;cases h
    | some l=>exact ⟨resV l,σ'.hp,fun γ K'=>by rw [h1];simp only [hr]⟩
def gatherR:Nat→List Nat→List (Nat × AObj)→(List (Nat × AObj)→Rd Out)→Rd Out
 | 0,_,_,_=>.fail
 | f+1,todo,acc,k=>match todo with
  | []=>k acc
  | i :: l=>match look acc i with
   | some _=>gatherR f l acc k
   | none=>.obj i fun o=>gatherR f (l ++ o.names) (acc ++ [(i,o)]) k
def idxOf (i:Nat):Nat→List (Nat × AObj)→Nat
 | n,[]=>n
 | n,(j,_) :: l=>cond (Nat.beq j i) n (idxOf i (n+1) l)
def nthOf:List (Nat × AObj)→Nat→Nat
 | [],j=>j
 | (i,_) :: _,0=>i
 | _ :: l,j+1=>nthOf l j
def viewO (own:Bool) (m:Nat→Nat):AObj→AObj
 | .cells ty c=>cond own (.cells ty (renL m c)) (.ro ty (renL m c))
 | .row ty s l=>cond own (.row ty s l) (.arg s l)
 | .ro ty c=>.ro ty (renL m c)
 | .arg s l=>.arg s l
 | .mapo ks vs l=>.mapo ks vs l
 | .raw o=>.raw o
 | .dead=>.dead
def hcOf (own:Bool) (m:Nat→Nat):Nat→List (Nat × AObj)→Hp
 | _,[]=>[]
 | j,(_,o) :: l=>cond o.isDead (hcOf own m (j+1) l) ((j,viewO own m o) :: hcOf own m (j+1) l)
def chkRen (acc:List (Nat × AObj)) (i:Nat):Bool:=Nat.blt (idxOf i 0 acc) acc.length && Nat.beq (nthOf acc (idxOf i 0 acc)) i
def chkIdx (acc:List (Nat × AObj)):Nat→List (Nat × AObj)→Bool
 | _,[]=>true
 | j,(i,o) :: l=>Nat.beq (idxOf i 0 acc) j && o.ids (chkRen acc) && chkIdx acc (j+1) l
def ownChk (hp':Hp):Hp→Bool
 | []=>true
 | (i,o) :: l=>(!o.own || (match look hp' i with
  | some o'=>o'.own || o'.isDead
  | none=>false)) && ownChk hp' l
noncomputable def conAuto (P:Program) (C:FuncId→Option Con) (cn:Nat→St→Option St) (F:Nat) (own:Bool) (fn:Func):Con:=fun args lo =>
 gatherR 60 (namesL args) [] fun acc=>cond (idsL (chkRen acc) args && chkIdx acc 0 acc)
  (.cps (δ:=Out) (fun γ k=>forceC (renL (fun i=>idxOf i 0 acc) args) fun args'=>forceHp (hcOf own (fun i=>idxOf i 0 acc) 0 acc) fun hc=>forceN acc.length fun p =>
   evFn P C cn F fn args' hc p fun s h=>match KO p s h with
    | none=>none
    | some (r,hp')=>cond (ownChk hp' hc) (k ⟨ren (mr (nthOf acc) p lo) r,updGo (mr (nthOf acc) p lo) hp' hp'⟩) none)
   (fun γ k b h=>by
    simp only [forceC_eq,forceHp_eq,forceN_eq] at h ⊢
    obtain ⟨s,h',h1⟩:=evFn_nat h
    rw [h1] at h
    cases hk:KO acc.length s h' with
    | none=>rw [hk] at h;cases h
    | some x =>
     obtain ⟨r,hp'⟩:=x
     rw [hk] at h
     simp only at h
     cases ho:ownChk hp' (hcOf own (fun i=>idxOf i 0 acc) 0 acc) with
     | false=>rw [ho] at h;cases h
     | true=>exact ⟨⟨ren (mr (nthOf acc) acc.length lo) r,updGo (mr (nthOf acc) acc.length lo) hp' hp'⟩,fun γ' k'=>by rw [h1];simp only [hk,ho,cond_true]⟩)
   fun out=>.ret out) .fail
mutual
theorem ren_back {m fm:Nat→Nat} {q:Nat→Bool} (hq:∀ i,q i=true→m (fm i)=i):∀ s:SV,s.ids q=true→ren m (ren fm s)=s
 | .v _,_=>rfl
 | .ptr id _,h=>by simp only [ren];rw [hq id h]
 | .elt id _ _ _,h=>by simp only [ren];rw [hq id h]
 | .slc id _ _ _ _,h=>by simp only [ren];rw [hq id h]
 | .all id,h=>by simp only [ren];rw [hq id h]
 | .map id,h=>by simp only [ren];rw [hq id h]
 | .fn _ fi ca,h=>by
  simp only [SV.ids,Bool.and_eq_true] at h
  simp only [ren];rw [renL_back hq fi h.1,renL_back hq ca h.2]
 | .agg l,h=>by simp only [ren];rw [renL_back hq l h]
 | .tup l,h=>by simp only [ren];rw [renL_back hq l h]
theorem renL_back {m fm:Nat→Nat} {q:Nat→Bool} (hq:∀ i,q i=true→m (fm i)=i):∀ l:List SV,idsL q l=true→renL m (renL fm l)=l
 | [],_=>rfl
 | s :: l,h=>by
  simp only [idsL,Bool.and_eq_true] at h
  simp only [renL];rw [ren_back hq s h.1,renL_back hq l h.2]
end
theorem gatherR_run {h:Hp} {k:List (Nat × AObj)→Rd Out} : ∀ (f:Nat) (todo:List Nat) (acc:List (Nat × AObj)) (out:Out) (ids:List Nat),(gatherR f todo acc k).run h=some (out,ids)→(∀ q∈acc,look h q.1=some q.2)→
 ∃ acc' ids',(∀ q∈acc',look h q.1=some q.2)∧(k acc').run h=some (out,ids')
 | 0,todo,acc,out,ids,hr,_=>by cases hr
 | f+1,todo,acc,out,ids,hr,ha=>by
  simp only [gatherR] at hr
  cases todo with
  | nil=>exact ⟨acc,ids,ha,hr⟩
  | cons i l =>
   simp only at hr
   cases hl:look acc i with
   | some _=>rw [hl] at hr;exact gatherR_run f l acc out ids hr ha
   | none =>
    rw [hl] at hr
    obtain ⟨o,ids',ho,hr⟩:=obj_run hr
    exact gatherR_run f _ _ out ids' hr (fun q hq=>by
     rcases List.mem_append.1 hq with hq|hq
     · exact ha q hq
     · simp only [List.mem_singleton] at hq;subst hq;exact ho)
theorem hcOf_look {own:Bool} {m:Nat→Nat} {i:Nat} {oc:AObj} : ∀ {l:List (Nat × AObj)} {j:Nat},look (hcOf own m j l) i=some oc→∃ q,j≤i∧l[i - j]? = some q∧oc=viewO own m q.2∧q.2.isDead=false
 | [],j,h=>by cases h
 | (a,o) :: l,j,h=>by
  simp only [hcOf] at h
  cases hd:o.isDead with
  | true =>
   rw [hd] at h
   obtain ⟨q,h1,h2,h3⟩:=hcOf_look h
   exact ⟨q,by omega,by rw [show i - j=(i - (j+1))+1 by omega,List.getElem?_cons_succ];exact h2,h3⟩
  | false =>
   rw [hd] at h
   simp only [cond_false,look] at h
   by_cases e:j=i
   · subst e
     rw [Nat.beq_refl] at h
     cases h
     exact ⟨(a,o),Nat.le_refl _,by simp,rfl,hd⟩
   · rw [beq_no e] at h
     obtain ⟨q,h1,h2,h3⟩:=hcOf_look h
     exact ⟨q,by omega,by rw [show i - j=(i - (j+1))+1 by omega,List.getElem?_cons_succ];exact h2,h3⟩
theorem nthOf_get:∀ {l:List (Nat × AObj)} {i:Nat} {q:Nat × AObj},l[i]? = some q→nthOf l i=q.1
 | [],i,q,h=>by simp at h
 | (a,o) :: l,0,q,h=>by simp at h;subst h;rfl
 | (a,o) :: l,i+1,q,h=>by rw [List.getElem?_cons_succ] at h;exact nthOf_get (l:=l) h
theorem chkIdx_get {acc:List (Nat × AObj)} : ∀ {l:List (Nat × AObj)} {j:Nat},chkIdx acc j l=true→∀ {i:Nat} {q:Nat × AObj},l[i]? = some q→idxOf q.1 0 acc=j+i∧q.2.ids (chkRen acc)=true
 | [],j,_,i,q,h=>by simp at h
 | (a,o) :: l,j,hc,i,q,h=>by
  simp only [chkIdx,Bool.and_eq_true] at hc
  cases i with
  | zero=>simp at h;subst h;exact ⟨Nat.eq_of_beq_eq_true hc.1.1,hc.1.2⟩
  | succ i =>
   rw [List.getElem?_cons_succ] at h
   obtain ⟨h1,h2⟩:=chkIdx_get hc.2 h
   exact ⟨by omega,h2⟩
theorem ownChk_look {hp':Hp} {i:Nat} {oc:AObj} (hw:oc.own=true):∀ {l:Hp},ownChk hp' l=true→look l i=some oc→∃ o',look hp' i=some o'∧(o'.own=true∨o' = .dead)
 | [],_,h=>by cases h
 | (j,o) :: l,hc,h=>by
  simp only [ownChk,Bool.and_eq_true] at hc
  simp only [look] at h
  by_cases e:j=i
  · subst e
    rw [Nat.beq_refl] at h
    cases h
    have h1:=hc.1
    rw [hw] at h1
    simp only [Bool.not_true,Bool.false_or] at h1
    split at h1
    · rename_i o' ho'
      rw [Bool.or_eq_true] at h1
      exact ⟨o',ho',h1.imp id AObj.of_isDead⟩
    · cases h1
  · rw [beq_no e] at h
    exact ownChk_look hw hc.2 h
theorem conAuto_ok {f : FuncId} {fn : Func} (hm : P.follows .mixedOrders = true) (hf : P.funcs[f]? = some fn) (hname : (fn.name == "runtime.NumGoroutine") = false) (hbody : fn.body.isSome = true)
 (hC:∀ B' g φ,C g=some φ→ConOk P B' g φ) (hcn:∀ B' (w0:Base),CnOk cn B' w0 fn.ntmps) (own:Bool) (B:Nat→Prop):ConOk P B f (conAuto P C cn F own fn):=by
 obtain ⟨c0,hbody⟩:=Option.isSome_iff_exists.1 hbody
 intro args ρ h w lo out ids hr hrh hfree hfa up
 unfold conAuto at hr
 obtain ⟨acc,ids',hacc,hr⟩:=gatherR_run 60 _ _ out ids hr (fun q hq=>by cases hq)
 cases hchk:(idsL (chkRen acc) args && chkIdx acc 0 acc) with
 | false=>rw [hchk] at hr;cases hr
 | true =>
 rw [hchk] at hr
 simp only [cond_true] at hr
 rw [Bool.and_eq_true] at hchk
 simp only [Rd.run,forceC_eq,forceHp_eq,forceN_eq] at hr
 split at hr
 · rename_i y hy
   cases hr
   obtain ⟨s,h1,hn⟩:=evFn_nat hy
   rw [hn] at hy
   cases hk:KO acc.length s h1 with
   | none=>rw [hk] at hy;cases hy
   | some x =>
    obtain ⟨r,hp'⟩:=x
    rw [hk] at hy
    simp only at hy
    cases ho:ownChk hp' (hcOf own (fun i=>idxOf i 0 acc) 0 acc) with
    | false=>rw [ho] at hy;cases hy
    | true =>
     rw [ho] at hy
     cases hy
     have hq:∀ i,chkRen acc i=true→nthOf acc (idxOf i 0 acc)=i:=fun i hi=>by
      unfold chkRen at hi
      rw [Bool.and_eq_true] at hi
      exact Nat.eq_of_beq_eq_true hi.2
     have hl:∀ i,chkRen acc i=true→idxOf i 0 acc<acc.length:=fun i hi=>by
      unfold chkRen at hi
      rw [Bool.and_eq_true] at hi
      exact blt_lt hi.1
     have hargs:=renL_back hq args hchk.1
     have get:∀ i oc,look (hcOf own (fun i=>idxOf i 0 acc) 0 acc) i=some oc→∃ q,acc[i]? = some q∧oc=viewO own (fun i=>idxOf i 0 acc) q.2∧q.2.isDead=false∧nthOf acc i=q.1∧idxOf q.1 0 acc=i∧q.2.ids (chkRen acc)=true:=by
      intro i oc hi
      obtain ⟨q,_,h2,h3,h4⟩:=hcOf_look hi
      have h2:acc[i]? = some q:=h2
      obtain ⟨h5,h6⟩:=chkIdx_get hchk.2 h2
      exact ⟨q,h2,h3,h4,nthOf_get h2,by omega,h6⟩
     have:=con_own (B:=B) hm hf hname hbody hC (p:=acc.length) (fun B' w0 _=>hcn B' w0) (renL (fun i=>idxOf i 0 acc) args) (nthOf acc) (hcOf own (fun i=>idxOf i 0 acc) 0 acc) r hp' (by rw [hn];exact hk) ρ h w lo hrh hfree up
      (renL_lt hl args hchk.1)
      (fun i oc hi=>by
       obtain ⟨q,h2,rfl,h4,h5,h6,h7⟩:=get i oc hi
       refine ⟨(List.getElem?_eq_some_iff.1 h2).1,?_⟩
       obtain ⟨a,o⟩:=q
       cases o with
       | cells ty c=>cases own<;>exact renL_lt hl c h7
       | row ty s l=>cases own<;>rfl
       | ro ty c=>exact renL_lt hl c h7
       | arg s l=>rfl
       | mapo ks vs l=>rfl
       | raw o=>rfl
       | dead=>rfl)
      (fun i hi=>by
       have h2:=List.getElem?_eq_getElem hi
       rw [nthOf_get h2]
       exact (hfree _ _ (hacc _ (List.getElem_mem hi))).1)
      (fun i oc hi=>by
       obtain ⟨q,h2,rfl,h4,h5,h6,h7⟩:=get i oc hi
       refine ⟨q.2,by rw [h5];exact hacc q (List.mem_of_getElem? h2),?_⟩
       obtain ⟨a,o⟩:=q
       cases o with
       | cells ty c =>
        have hb:=renL_back hq c h7
        cases own with
        | true =>
         have:=View.own (m:=nthOf acc) ty (renL (fun i=>idxOf i 0 acc) c)
         rw [hb] at this
         exact this
        | false=>exact .reads (.inl (by rw [hb]))
       | mapo ks vs l=>exact .mapo ks vs l
       | raw o=>exact .raw o
       | row ty s l =>
        cases own with
        | true=>exact .row ty s l
        | false=>exact .reads (.inl ⟨ty,rfl⟩)
       | ro ty c =>
        have hb:=renL_back hq c h7
        exact .reads (.inr (by rw [hb]))
       | arg s l=>exact .reads (.inr rfl)
       | dead=>cases h4)
      (fun i j oc oc' hi hj hij _=>by
       obtain ⟨q,_,_,_,h5,h6,_⟩:=get i oc hi
       obtain ⟨q',_,_,_,h5',h6',_⟩:=get j oc' hj
       intro e
       rw [h5,h5'] at e
       exact hij (by rw [← h6,← h6',e]))
      (fun i oc hi hw=>ownChk_look hw ho hi)
     rw [hargs] at this
     exact this
 · cases hr
end
end Go.Proofs.Ytlfkfajodnkkhaa.Ax
