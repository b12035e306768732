/- Code within a round of a loop over a function: operations that enter nothing. -/
import Derived.Test.YtlfkfajodnkkhaaRngA
import Derived.CallsIn
import Derived.AtR
import Derived.RangeFuncNested
namespace Go.Proofs.Ytlfkfajodnkkhaa.Ax
open Go Go.RowKit
set_option linter.unusedVariables false
set_option linter.unusedSimpArgs false
section
variable {E:Oper→(Operand→Option SV)→Nat→Rd Out} {n:Nat} {cn:Nat→St→Option St} {F:Nat}
theorem evReg_ops {β:Type} {P:Program} {B:Nat→Prop} {w0:Base} (hm:P.follows .mixedOrders=true) (hE:Sound E P B w0 n) (ops:Array Oper) (σ:St) (K:Ex→St→Option β) (b:β)
 (h:evReg E n ops false σ (K .normal)=some b) (ρ:Rho) (a:Act) (w:World) (hw:Wf w0.pin σ) (hR:R B w0 n σ ρ a w):wpOps P ops (Ends B w0 n K b) (List.range ops.size) a w:=by
 obtain ⟨sl0,hp0,nx0⟩:=σ
 have h:=(show evOps E n ops nx0 0 ops.toList ⟨sl0,hp0,nx0⟩ [] (fun σ' rs=>cond (regOk ops nx0 false rs.reverse) (K .normal { σ' with nx:=nx0+wide * ops.size }) none)=some b from by
  unfold evReg at h
  simp only [forceN_eq,sel] at h
  exact h)
 generalize hσ:(⟨sl0,hp0,nx0⟩:St)=σ at *
 have hnx:σ.nx=nx0:=by rw [← hσ]
 subst hnx
 obtain ⟨σ',L,h1,h2,h3,h4⟩:=evOps_runs hE.loc ops.toList 0 σ [] _ b (fun j o hj=>by simpa using hj) h
 rw [List.append_nil,List.reverse_reverse] at h1
 cases hk:regOk ops σ.nx false L with
 | false=>rw [hk] at h1;cases h1
 | true =>
  rw [hk] at h1
  simp only [cond_true] at h1
  unfold regOk at hk
  simp only [Bool.and_eq_true,List.all_eq_true] at hk
  obtain ⟨⟨hp,hed⟩,hlt⟩:=hk
  have hidx:∀ j,j<ops.size↔∃ r∈L,r.i=j:=by
   intro j
   have:j∈L.map (·.i)↔j<ops.size:=by rw [h3,List.mem_range'];simp
   rw [← this,List.mem_map]
  have hdst:∀ i,dstOk n (dstOf ops i)=true:=by
   intro i
   by_cases hi:i<ops.size
   · obtain ⟨r,hr,hri⟩:=(hidx i).1 hi
     rw [← hri]
     exact h4 r hr
   · simp [dstOf,Array.getElem?_eq_none (Nat.le_of_not_lt hi),dstOk]
  have hS:=opS_of (ops:=ops) (n0:=σ.nx) hE hdst hw.px
  have hfr:∀ r∈L,Fresh (loOf σ.nx r.i) (loOf σ.nx r.i+wide) σ:=fun r _=>hw.fresh (Nat.le_add_right _ _)
  have hN:σ.nx≤σ.nx+wide * ops.size:=Nat.le_add_right _ _
  have hwf:Wf w0.pin { σ' with nx:=σ.nx+wide * ops.size }:=by
   obtain ⟨k1,k2⟩:=Runs.wf h2 hlt (fun t s hs=>SV.lt_mono hN s (hw.sl t s hs)) (fun i o ho=>⟨Nat.lt_of_lt_of_le (hw.hp i o ho).1 hN,AObj.lt_mono hN o (hw.hp i o ho).2⟩)
   exact ⟨k1,k2,Nat.le_trans hw.px hN⟩
  have hQ:∀ ρ a w,R B w0 n σ' ρ a w→Ends B w0 n K b .normal a w:=fun ρ' a' w' hR'=>⟨.normal,_,ρ',rfl,h1,hwf,hR'.eqv ⟨fun _=>rfl,fun _=>rfl⟩⟩
  have:=seq_order hS hQ L σ ρ a w h2 hR hfr hp
  rw [h3] at this
  rwa [List.range_eq_range',← Array.length_toList]
def plainOp (o:Oper):Bool:=match o.op with
 | .move _ | .assign _ | .alloc _ | .box .. | .build .. | .buildSlice .. | .load .. | .store .. | .binOp .. | .unOp .. | .convert .. | .fieldAddr .. | .field .. | .indexAddr .. | .index .. | .extract .. | .slice .. | .makeSlice ..=>true
 | .call c=>match c.callee with
  | .builtin .append=>true
  | .builtin .len=>true
  | _=>false
 | _=>false
def goes:Result Next→Bool
 | .ok (.value _) _ | .ok .skip _=>true
 | .halt ..=>true
 | _=>false
theorem goes_v {P:Program} {w:World} (s:Sem Value):goes ((do pure (Next.value (← s)):Sem Next).run P w)=true:=by
 rw [Sem.run_bind]
 cases s.run P w<;>rfl
theorem goes_u {P:Program} {w:World} (s:Sem Unit):goes ((do s;pure Next.skip:Sem Next).run P w)=true:=by
 rw [Sem.run_bind]
 cases s.run P w<;>rfl
theorem plain_goes {P:Program} {w:World} {o:Oper} {ev:Operand→Value} (h:plainOp o=true):goes ((execOp ev o).run P w)=true:=by
 unfold plainOp at h
 unfold execOp
 split at h
 all_goals first|(rename_i ho;simp only [ho])|skip
 all_goals first
  | rfl
  | exact goes_v _
  | exact goes_u _
  | (cases h;done)
  | skip
 rename_i c
 cases hc:c.callee with
 | builtin b =>
  rw [hc] at h
  have hr:(resolve ev c o.type).run P w = .ok { target:=.builtin b c.argTypes o.type (c.args.map fun | .const _=>true|_=>false),args:=c.args.map ev } w:=by
   unfold resolve
   rw [hc]
   rfl
  rw [Sem.run_bind,hr,Result.andThen_ok]
  cases b<;>first|(cases h;done)|exact goes_v _
 | value f=>rw [hc] at h;cases h
 | invoke r n=>rw [hc] at h;cases h
theorem wpOpsIn_of {P:Program} {ops:Array Oper} {Q:Exit→Act→World→Prop} (hp:∀ o∈ops,plainOp o=true) (hQ:¬ LetsOut Q) (l m:Nat):∀ (ix:List Nat) (a:Act) (w:World),wpOps P ops Q ix a w→wpOpsIn (Fence.wide.inRound l) m P ops Q ix a w
 | [],a,w,h=>h
 | i :: r,a,w,h=>by
  unfold wpOps at h
  unfold wpOpsIn
  split at h
  · rename_i ho
    simp only [ho]
    exact wpOpsIn_of hp hQ l m r a w h
  · rename_i o ho
    simp only [ho]
    have hpl:plainOp o=true:=hp o (Array.mem_of_getElem? ho)
    split at h
    · rename_i hw
      rw [if_pos hw]
      rcases h with h|⟨_,h⟩
      · refine ⟨fun _ _=>trivial,?_⟩
        have hse:(o.semAt (Fence.wide.inRound l).round a.eval)=execOp a.eval o:=Oper.semAt_eq _ _ _ (fun c hc=>by unfold plainOp at hpl;rw [hc] at hpl;cases hpl)
        rw [hse]
        unfold Oper.wp at h
        have hg:=plain_goes (P:=P) (w:=w) (ev:=a.eval) hpl
        revert h hg
        generalize (execOp a.eval o).run P w=res
        intro h hg
        cases res with
        | ok x w' =>
         cases x<;>first|(cases hg;done)|exact wpOpsIn_of hp hQ l m r _ _ h
        | halt x w' =>
         cases x<;>first|exact h|(exact False.elim h)
      · exact absurd h hQ
    · rename_i hw
      rw [if_neg hw]
      exact ⟨fun _ _=>trivial,wpOpsIn_of hp hQ l m r _ _ h⟩
def plainC:Code→Bool
 | .region _ ops draw=>!draw && ops.all plainOp
 | .seq a b=>plainC a && plainC b
 | .block _ c=>plainC c
 | .skip=>true
 | _=>false
theorem ends_in {β:Type} {B:Nat→Prop} {w0:Base} {K:Ex→St→Option β} {b:β} : ¬ LetsOut (Ends B w0 n K b):=by
 rintro ⟨a,w,e,σ',ρ',he,_⟩
 cases e<;>cases he
theorem ev_soundIn {β:Type} {P:Program} {B:Nat→Prop} {w0:Base} (hm:P.follows .mixedOrders=true) (hE:Sound E P B w0 n) (l m:Nat) :
 ∀ (c:Code) (σ:St) (K:Ex→St→Option β) (b:β),plainC c=true→ev E n cn F c σ K=some b→∀ (ρ:Rho) (a:Act) (w:World),Wf w0.pin σ→R B w0 n σ ρ a w→c.wpIn (Fence.wide.inRound l) m P (Ends B w0 n K b) a w
 | .skip,σ,K,b,_,h,ρ,a,w,hw,hR=>wpIn_skip ⟨.normal,σ,ρ,rfl,h,hw,hR⟩
 | .region id ops draw,σ,K,b,hp,h,ρ,a,w,hw,hR=>by
  unfold plainC at hp
  rw [Bool.and_eq_true,Bool.not_eq_true'] at hp
  obtain ⟨rfl,hp⟩:=hp
  exact wpIn_region (wpOpsIn_of (fun o ho=>by rw [Array.all_eq_true'] at hp;exact hp o ho) ends_in l m _ a w (evReg_ops hm hE ops σ K b h ρ a w hw hR))
 | .seq x y,σ,K,b,hp,h,ρ,a,w,hw,hR=>by
  unfold plainC at hp
  rw [Bool.and_eq_true] at hp
  simp only [ev] at h
  refine wpIn_seq (wpIn_mono (ev_soundIn hm hE l m x σ _ b hp.1 h ρ a w hw hR) ?_)
  rintro e' a' w' ⟨e,σ',ρ',rfl,hk,hw',hR'⟩
  cases e with
  | normal=>exact ev_soundIn hm hE l m y σ' K b hp.2 hk ρ' a' w' hw' hR'
  | exit id=>exact ⟨.exit id,σ',ρ',rfl,hk,hw',hR'⟩
  | ret=>exact ⟨.ret,σ',ρ',rfl,hk,hw',hR'⟩
 | .block id c,σ,K,b,hp,h,ρ,a,w,hw,hR=>by
  unfold plainC at hp
  simp only [ev] at h
  refine wpIn_block (wpIn_mono (ev_soundIn hm hE l m c σ _ b hp h ρ a w hw hR) ?_)
  rintro e' a' w' ⟨e,σ',ρ',rfl,hk,hw',hR'⟩
  cases e with
  | normal=>exact ⟨.normal,σ',ρ',rfl,hk,hw',hR'⟩
  | exit j =>
   simp only at hk
   show (Exit.inBlock id _) (.exit j) a' w'
   unfold Exit.inBlock
   cases hj:Nat.beq j id with
   | true =>
    have:=Nat.eq_of_beq_eq_true hj
    subst this
    simp only [hj,cond_true] at hk
    simp only [beq_self_eq_true,if_true]
    exact ⟨.normal,σ',ρ',rfl,hk,hw',hR'⟩
   | false =>
    have hne:j≠id:=fun e=>by subst e;rw [Nat.beq_refl] at hj;cases hj
    simp only [hj,cond_false] at hk
    simp only [hne,if_false]
    exact ⟨.exit j,σ',ρ',rfl,hk,hw',hR'⟩
  | ret=>exact ⟨.ret,σ',ρ',rfl,hk,hw',hR'⟩
def Bn (ρ:Rho) (h:Hp) (w:World):Nat→Prop:=fun b=>w.heap.size≤b∨∃ i o,look h i=some o∧o.own=true∧(ρ i).nil=false∧(ρ i).blk=b
theorem HR.narrow {B:Nat→Prop} {ρ:Rho} {h:Hp} {w:World} (hr:HR B ρ h w):HR (Bn ρ h w) ρ h w:=by
 refine ⟨hr.ok,fun i o ho hw hn=>.inr ⟨i,o,ho,hw,hn,rfl⟩,fun i o ho hs hn hb=>?_,hr.inj⟩
 rcases hb with hb|⟨j,o',ho',hw',hn',hj⟩
 · have:=(hr.ok i o ho).lt (fun e=>by subst e;cases hs) hn
   omega
 · exact hr.arg i o ho hs hn (hj ▸ hr.inB j o' ho' hw' hn')
theorem Bn.sub {B:Nat→Prop} {ρ:Rho} {h:Hp} {w:World} (hr:HR B ρ h w) (up:∀ b,w.heap.size≤b→B b):∀ b,Bn ρ h w b→B b:=by
 rintro b (hb|⟨i,o,ho,hw,hn,rfl⟩)
 · exact up b hb
 · exact hr.inB i o ho hw hn
theorem Keeps.widen {B C:Nat→Prop} {w w':World} (h:Keeps B w w') (hs:∀ b,B b→C b):Keeps C w w':=⟨h.os,h.tape,h.output,h.size,fun k hk=>h.block k fun hb=>hk (hs k hb)⟩
theorem HR.own {B:Nat→Prop} {ρ:Rho} {h:Hp} {w w':World} {row:Option Nat} (hr:HR B ρ h w) (hg:w.grownBy w' row) (hc:∀ i o,look h i=some o→match o with | .mapo .. | .raw _=>False | .arg s l=>(ρ i).nil=false→∃ cs t fz,w.heap[(ρ i).blk]? = some (.cells cs t fz)|_=>True)
 (hrow:∀ r,row=some r→∃ o:Obj,w.heap[r]? = some o∧o.isCells=false):HR B ρ h w':=by
 refine hr.keep hg.size fun i o ho hd hn=>hg.block _ ((hr.ok i o ho).lt hd hn) fun e=>?_
 obtain ⟨ob,h1,h2⟩:=hrow _ e.symm
 have hk:=hr.ok i o ho
 have hci:=hc i o ho
 cases o with
 | dead=>exact hd rfl
 | cells ty c=>rw [hk.2.2] at h1;cases h1;cases h2
 | ro ty c=>rw [hk.2.2] at h1;cases h1;cases h2
 | row ty s l =>
  rcases hk.2 with ⟨h3,_⟩|⟨_,_,_,arr,h3,_⟩
  · rw [h3] at hn;cases hn
  · rw [h3] at h1;cases h1;cases h2
 | arg s l =>
  obtain ⟨_,_,_,hx⟩:=hci hn
  rw [hx] at h1;cases h1;cases h2
 | mapo ks vs l=>exact hci
 | raw o=>exact hci
end
end Go.Proofs.Ytlfkfajodnkkhaa.Ax
