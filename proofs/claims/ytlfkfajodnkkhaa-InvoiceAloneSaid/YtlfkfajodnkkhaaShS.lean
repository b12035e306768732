/- share.Split as a plain function. -/
import Derived.Test.YtlfkfajodnkkhaaAxIn
import Derived.Test.YtlfkfajodnkkhaaShJ
import Derived.Test.YtlfkfajodnkkhaaAx22
namespace Go.Proofs.Ytlfkfajodnkkhaa.Sh
open Go Go.RowKit Go.Proofs.YtlfkfajodnkkhaaW.PrintWords Go.Proofs.Ytlfkfajodnkkhaa.Ax
set_option linter.unusedVariables false
set_option linter.unusedSimpArgs false
abbrev sI:List Sc:=[.int .i64]
abbrev qBool:Pc:=.one .bool
abbrev qU:Pc:=.one (.int .u64)
abbrev qInts:Pc:=.row 3 sI
abbrev uv (n:Int):SV:=.v (.int .u64 n)
def rI (l:List Int) (i:Int):Int:=List.getD l i.toNat 0
def T23:Nat→Option (List Nat × List (Nat × TypeId × List Sc))
 | 5=>some ([4,15,16,17],[])
 | _=>none
noncomputable def L23 (F kk:Nat) (l:List Int) (s i:Int):Option (Int × Bool × Unit):=loopAt (eff Try.prog (fun _=>none)) Try.f34.ntmps (cnRow 1 T23) F Try.prog Try.f34 (KX [qInt,qBool]) [.R,.R,.R,.L,.R,.D] kk
 ⟨[(4,vi s),(15,.all 0),(16,vi (l.length:Int)),(17,vi i)],[(0,.arg sI l)],2⟩
theorem L23_eq (F kk:Nat) (l:List Int) (s i:Int):L23 F (kk+1) l s i =
 sel (decide (i<(l.length:Int))) (idxP l i (sel (decide (rI l i<0)) (some (0,false,())) (sel (decide (1099511627776<rI l i)) (some (0,false,())) (L23 F kk l (IT.wrap (s+rI l i)) (IT.wrap (i+1)))))) (some (s,decide (0<s),())):=by kernel_rfl
theorem sum_tree (F:Nat) (l:List Int):evX Try.prog (fun _=>none) (cnRow 1 T23) F Try.f34 [qInts] [qInt,qBool] (l,()) =
 sel (decide ((l.length:Int)<1)) (some (0,false,())) (sel (decide (256<(l.length:Int))) (some (0,false,())) (L23 F F l 0 0)):=by kernel_rfl
def goodW (l:List Int):Bool:=l.all fun w=>decide (0≤w) && decide (w≤1099511627776)
def sumV (l:List Int):Int × Bool:=bif decide (l.length<1) || (decide (256<l.length) || !goodW l) then (0,false) else (l.sum,decide (0<l.sum))
theorem L23_run (F:Nat) (l:List Int) (hl:l.length≤256):∀ (n i kk:Nat) (s:Int),i+n=l.length→n<kk→0≤s→s≤i * 1099511627776→
 L23 F kk l s i=some (bif goodW (l.drop i) then (s+(l.drop i).sum,decide (0<s+(l.drop i).sum),()) else (0,false,())):=by
 intro n
 induction n with
 | zero =>
  intro i kk s hi hk h0 h1
  obtain ⟨k,rfl⟩:∃ k,kk=k+1:=⟨kk - 1,by omega⟩
  rw [L23_eq,decide_eq_false (by omega),sel_false,List.drop_eq_nil_of_le (by omega)]
  simp [goodW]
 | succ n ih =>
  intro i kk s hi hk h0 h1
  obtain ⟨k,rfl⟩:∃ k,kk=k+1:=⟨kk - 1,by omega⟩
  have hlt:i<l.length:=by omega
  have hr:rI l i=l[i]:=by unfold rI;simp [List.getD,hlt]
  have e3:IT.wrap ((i:Int)+1)=((i+1:Nat):Int):=by rw [wr (by omega) (by omega)];omega
  rw [L23_eq,decide_eq_true (by omega),sel_true,hr,e3,List.drop_eq_getElem_cons hlt]
  have hid:∀ x:Option (Int × Bool × Unit),idxP l i x=x:=by
   intro x
   unfold idxP
   rw [decide_eq_true (by omega),decide_eq_true (by omega),decide_eq_true (by omega)];rfl
  rw [hid]
  by_cases ha:l[i]<0
  · rw [decide_eq_true ha,sel_true]
    have:goodW (l[i] :: l.drop (i+1))=false:=by
     simp only [goodW,List.all_cons]
     rw [decide_eq_false (show ¬ 0≤l[i] by omega)];rfl
    rw [this];rfl
  · rw [decide_eq_false ha,sel_false]
    by_cases hb:1099511627776<l[i]
    · rw [decide_eq_true hb,sel_true]
      have:goodW (l[i] :: l.drop (i+1))=false:=by
       simp only [goodW,List.all_cons]
       rw [decide_eq_false (show ¬ l[i]≤1099511627776 by omega),Bool.and_false];rfl
      rw [this];rfl
    · have e4:IT.wrap (s+l[i])=s+l[i]:=by
       show IntKind.i64.wrap _=_
       rw [IntKind.wrap_i64];omega
      rw [decide_eq_false hb,sel_false,e4,ih (i+1) k (s+l[i]) (by omega) (by omega) (by omega) (by omega)]
      have hg:goodW (l[i] :: l.drop (i+1))=goodW (l.drop (i+1)):=by
       simp only [goodW,List.all_cons]
       rw [decide_eq_true (show 0≤l[i] by omega),decide_eq_true (show l[i]≤1099511627776 by omega)];rfl
      rw [hg,List.sum_cons,Int.add_assoc]
theorem sum_run (l:List Int):evX Try.prog (fun _=>none) (cnRow 1 T23) 300 Try.f34 [qInts] [qInt,qBool] (l,())=some ((sumV l).1,(sumV l).2,()):=by
 rw [sum_tree]
 unfold sumV
 by_cases h1:l.length<1
 · rw [decide_eq_true (show (l.length:Int)<1 by omega),decide_eq_true h1];rfl
 · rw [decide_eq_false (show ¬ (l.length:Int)<1 by omega),decide_eq_false h1,sel_false]
   by_cases h2:256<l.length
   · rw [decide_eq_true (show 256<(l.length:Int) by omega),decide_eq_true h2];rfl
   · rw [decide_eq_false (show ¬ 256<(l.length:Int) by omega),decide_eq_false h2,sel_false]
     have:=L23_run 300 l (by omega) l.length 0 300 0 (by omega) (by omega) (by omega) (by omega)
     refine this.trans ?_
     rw [List.drop_zero,Int.zero_add]
     cases goodW l<;>rfl
noncomputable def cSum:Con:=conX [qInts] [qInt,qBool] fun x=>some ((sumV x.1).1,(sumV x.1).2,())
theorem cSum_ok (B):ConOk Try.prog B 34 cSum :=
 conX_ok mixed Try.func34 (by kernel_rfl) (by kernel_rfl) none_ok (fun B' w=>cnRow_ok (pin:=1) (T:=T23)) [qInts] [qInt,qBool] (by decide) (fun _=>300) (fun x=>some ((sumV x.1).1,(sumV x.1).2,())) (fun x y h=>by
  obtain ⟨l,u⟩:=x
  exact (sum_run l).trans h) B
def sizedV (a:Int):Int:=bif decide (a<0) then IntKind.wrap .u64 (IT.wrap (0 - a)) else IntKind.wrap .u64 a
theorem sized_tree (a:Int):evX Try.prog (fun _=>none) cn0 40 Try.f36 [qInt] [qU] (a,())=sel (decide (a<0)) (some (IntKind.wrap .u64 (IT.wrap (0 - a)),())) (some (IntKind.wrap .u64 a,())):=by kernel_rfl
theorem sized_one (a:Int):sel (decide (a<0)) (some (IntKind.wrap .u64 (IT.wrap (0 - a)),())) (some (IntKind.wrap .u64 a,()))=some (sizedV a,()):=by
 unfold sizedV
 cases decide (a<0)<;>rfl
noncomputable def cSized:Con:=conX [qInt] [qU] fun x=>some (sizedV x.1,())
theorem cSized_ok (B):ConOk Try.prog B 36 cSized :=
 toldP (lin:=[qInt]) (lout:=[qU]) none_ok Try.func36 (by kernel_rfl) (by kernel_rfl) (fun x=>some (sizedV x.1,())) (fun x y h=>by
  obtain ⟨a,u⟩:=x
  exact (sized_tree a).trans ((sized_one a).trans h)) (by decide) B
noncomputable def T_st:List SV→Option (List HP→Bool × List HP)
 | [.all 0,.v (.int .i64 n),.fn (.func 39) [] []]=>some fun l=>(cdec (n=len' l∧l.length≤1000∧Asc l),sortP l)
 | _=>none
noncomputable def T_so:List SV→Option (List HP→Bool × List HP)
 | [.all 0,.fn (.func 39) [] []]=>some fun l=>(cdec (l.length≤1000∧Asc l),sortP l)
 | _=>none
theorem cStable_ok (B):ConOk Try.prog B 56 (cRow T_st):=by
 refine cRow_ok (C:=C3 10) Try.func56 (by kernel_rfl) (by kernel_rfl) (C3_ok 10) (fun args g l h hok=>?_) B
 unfold T_st at h
 split at h
 case h_2=>cases h
 rename_i n
 cases h
 obtain ⟨h1,h2,h3⟩:=cdec_true.1 hok
 subst h1
 exact ⟨1001,T45,stable_run 10 1001 (by decide) (Nat.le_refl _) l h2 h3⟩
noncomputable def C4:FuncId→Option Con
 | 56=>some (cRow T_st)
 | g=>C0 g
theorem C4_ok:∀ B' g φ,C4 g=some φ→ConOk Try.prog B' g φ:=by
 intro B' g φ h
 unfold C4 at h
 split at h
 · cases h;exact cStable_ok B'
 · exact C0_ok B' _ φ h
theorem ev26_eq (F:Nat) (l:List HP):evFn Try.prog C4 (cnRow 1 T23) F Try.f38 [.all 0,fnC] (rowH l) 1 (KG (gcSt [0] 1) 1)=sel (cdec ((l.length:Int)=len' l∧l.length≤1000∧Asc l)) (endR (sortP l)) none:=by kernel_rfl
theorem cSort_ok (B):ConOk Try.prog B 38 (cRow T_so):=by
 refine cRow_ok (C:=C4) Try.func38 (by kernel_rfl) (by kernel_rfl) C4_ok (fun args g l h hok=>?_) B
 unfold T_so at h
 split at h
 case h_2=>cases h
 cases h
 have h1:=cdec_true.1 hok
 refine ⟨40,T23,(ev26_eq 40 l).trans ?_⟩
 rw [cdec_true.2 ⟨rfl,h1⟩,sel_true]
end Go.Proofs.Ytlfkfajodnkkhaa.Sh
namespace Go.Proofs.Ytlfkfajodnkkhaa.Ax
open Go Go.RowKit
set_option linter.unusedVariables false
set_option linter.unusedSimpArgs false
section
variable {P:Program} {f:FuncId} {fn:Func}
theorem conX_okW (hf : P.funcs[f]? = some fn) (hname : (fn.name == "runtime.NumGoroutine") = false) (hbody : fn.body.isSome = true) (lin lout : List Pc) (h1 : rowsP lout ≤ 1) (V : PT lin → Option (PT lout))
 (hcall:∀ x y,V x=some y→∀ (ρ0:Rho) (w:World),HR (fun b=>w.heap.size≤b) ρ0 (hcA lin x 0) w→Calls P f (denL ρ0 (encA lin x 0)).toArray w fun e w'=>∃ ρ' s h',e = .returned (den ρ' s)∧KX lout s h'=some y∧HR (fun b=>w.heap.size≤b) ρ' h' w'∧Keeps (fun b=>w.heap.size≤b) w w')
 (B:Nat→Prop):ConOk P B f (conX lin lout V):=by
 obtain ⟨c0,hbody⟩:=Option.isSome_iff_exists.1 hbody
 intro args ρ h w lo out ids hrun hr hfree hfa up
 obtain ⟨x,ids',ρ0,hin,hrun⟩:=decC_run hr lin 0 args _ out ids hrun
 obtain ⟨y,hy,hrun⟩:=opt_run hrun
 cases hrun
 obtain ⟨hd,hheap⟩:=hin ρ0 (fun _ _=>rfl)
 refine .inl ⟨Go.run_callFunc_enter' hf hname hbody _ _,?_⟩
 rw [← hd]
 have hrc:HR (fun b=>w.heap.size≤b) ρ0 (hcA lin x 0) w:=by
  refine ⟨fun i oc ho=>(hheap i oc ho).2.2.2.2,fun i oc ho hown=>?_,fun i oc ho hs hn=>?_,fun i j o o' ho ho' hown=>?_⟩
  · have:=(hheap i oc ho).2.2.1
    cases oc<;>first|(cases hown;done)|(cases this;done)
  · have:=(hheap i oc ho).2.2.2.2.lt (fun e=>by subst e;cases hs) hn
    show ¬ w.heap.size≤_
    omega
  · have:=(hheap i o ho).2.2.1
    cases o<;>first|(cases hown;done)|(cases this;done)
 refine (hcall x y hy ρ0 w hrc).mono ?_
 rintro e w' ⟨ρ1,s,h',rfl,hk,hr1,hks⟩
 obtain ⟨vs,hvs,rfl⟩:=KX_res hk
 refine ⟨_,rfl,?_⟩
 have hb:Below w.heap.size w w':=hks.below (fun b hb=>hb)
 obtain ⟨L,g1,g2⟩:=decR_den hr1 lo lout vs y h1 hvs
 obtain ⟨e1,e2⟩:=g1 (setRho ρ lo L) (fun _=>setRho_same _ _ _)
 have hval:=den_resV _ _ e1
 rcases e2 with e2|⟨o,hrow,e2,e3,e4⟩
 · rw [e2]
   refine ⟨setRho ρ lo L,hval.symm,fun i hi=>setRho_other _ _ (fun e=>by subst e;unfold wide at hi;omega),?_,Keeps.of_below hb up⟩
   have hkeep:HR B ρ h w':=hr.keep hb.size fun i o ho hd hn=>hb.block _ ((hr.ok i o ho).lt hd hn)
   have hne:∀ i x,look h i=some x→i≠lo:=fun i x hx e=>by have:=(hfree i x hx).1;unfold wide at this;omega
   have hρ:∀ i,i<lo∨lo+wide≤i→setRho ρ lo L i=ρ i:=fun i hi=>setRho_other _ _ (fun e=>by subst e;unfold wide at hi;omega)
   refine ⟨fun i o ho=>?_,fun i o ho hw hn=>?_,fun i o ho hs hn=>?_,fun i j o o' ho ho' hw hw' hn hn' hij=>?_⟩
   · rw [setRho_other _ _ (hne i o ho)]
     exact (hkeep.ok i o ho).keep (fun ty' c' e=>denL_free (lo:=lo) (hi:=lo+wide) hρ c' (free_cells (hfree i o ho).2 ty' c' e)) (fun _=>rfl) (Nat.le_refl _)
   · rw [setRho_other _ _ (hne i o ho)] at hn ⊢;exact hr.inB i o ho hw hn
   · rw [setRho_other _ _ (hne i o ho)] at hn ⊢;exact hr.arg i o ho hs hn
   · rw [setRho_other _ _ (hne i o ho)] at hn ⊢;rw [setRho_other _ _ (hne j o' ho')] at hn' ⊢;exact hr.inj i j o o' ho ho' hw hw' hn hn' hij
 · rw [e2]
   have m:=made_new (s:=resV (encA lout y lo)) (o:=o) (L:=L) hr hfree (show lo<lo+wide by unfold wide;omega) up (Keeps.of_below hb up) (fun k hk=>hb.block k hk) e3 g2 e4
   rw [hval] at m
   exact ⟨_,m⟩
end
section
variable {P:Program} {C:FuncId→Option Con} {cn:Nat→St→Option St} {E:Oper→(Operand→Option SV)→Nat→Rd Out} {n:Nat}
def spineC:List Code→Code→Code
 | [],d=>d
 | c :: cs,d=>.seq c (spineC cs d)
theorem spineC_run {B:Nat→Prop} {w0:Base} {F:Nat} (hm:P.follows .mixedOrders=true) (hE:Sound E P B w0 n) (hc:CnOk cn B w0 n) {d:Code} {S:List Nat} {p:Nat} (hp:w0.pin≤p) {σ':St} {Q:Exit→Act→World→Prop} (hQ:∀ ρ' a' w',Wf w0.pin σ'→R B w0 n σ' ρ' a' w'→d.wp P Q a' w') :
 ∀ (cs:List Code) (σ:St),ev E n cn F (spineC cs .skip) σ (Kn S p)=some σ'→∀ (ρ:Rho) (a:Act) (w:World),Wf w0.pin σ→R B w0 n σ ρ a w→(spineC cs d).wp P Q a w
 | [],σ,h,ρ,a,w,hw,hR=>by
  obtain ⟨h1,h2⟩:=gcSt_ok (B:=B) (n:=n) hp (show gcSt S p σ=some σ' from h)
  obtain ⟨ρ2,hR2⟩:=h2 _ _ _ hR
  exact hQ ρ2 a w h1 hR2
 | c :: cs,σ,h,ρ,a,w,hw,hR=>by
  have h:ev E n cn F (.seq c (spineC cs .skip)) σ (Kn S p)=some σ':=h
  simp only [ev] at h
  refine wp_seq (wp_mono (ev_sound hm hE hc c σ _ _ h ρ a w hw hR) ?_)
  rintro e' a' w' ⟨e,s,ρ',rfl,hk,hw',hR'⟩
  cases e with
  | normal=>exact spineC_run hm hE hc hp hQ cs s hk ρ' a' w' hw' hR'
  | exit id=>cases hk
  | ret=>cases hk
theorem chunkIn {B:Nat→Prop} {w0:Base} {F l m:Nat} (hm:P.follows .mixedOrders=true) (hE:Sound E P B w0 n) {c:Code} (hc:plainC c=true) {S:List Nat} {p:Nat} (hp:w0.pin≤p) {σ σ':St} (h:ev E n cn F c σ (Kn S p)=some σ')
 {Q:Exit→Act→World→Prop} {ρ:Rho} {a:Act} {w:World} (hw:Wf w0.pin σ) (hR:R B w0 n σ ρ a w) (hQ:∀ ρ' a' w',Wf w0.pin σ'→R B w0 n σ' ρ' a' w'→Q .normal a' w'):c.wpIn (Fence.wide.inRound l) m P Q a w:=by
 refine wpIn_mono (ev_soundIn hm hE l m c σ _ _ hc h ρ a w hw hR) ?_
 rintro e' a' w' ⟨e,s,ρ',rfl,hk,hw',hR'⟩
 cases e with
 | normal =>
  obtain ⟨h1,h2⟩:=gcSt_ok (B:=B) (n:=n) hp hk
  obtain ⟨ρ2,hR2⟩:=h2 _ _ _ hR'
  exact hQ ρ2 a' w' h1 hR2
 | exit id=>cases hk
 | ret=>cases hk
theorem keeps_from {ρ:Rho} {h:Hp} {w w':World} (hr:∃ B,HR B ρ h w) (hc:∀ i o,look h i=some o→match o with | .mapo .. | .raw _=>False|_=>True) (hk:Keeps (Bn ρ h w) w w') (k:Nat) (o:Obj) (ho:w.heap[k]? = some o) (hcell:o.isCells=false):w'.heap[k]? = some o:=by
 obtain ⟨B,hr⟩:=hr
 rw [← ho]
 refine hk.block k ?_
 rintro (hb|⟨i,x,hx,hw,hn,rfl⟩)
 · have:=(Array.getElem?_eq_some_iff.1 ho).1;omega
 · have h1:=hr.ok i x hx
   have h2:=hc i x hx
   cases x with
   | cells ty c=>rw [h1.2.2] at ho;cases ho;cases hcell
   | row ty s l =>
    rcases h1.2 with ⟨h3,_⟩|⟨_,_,_,arr,h3,_⟩
    · rw [h3] at hn;cases hn
    · rw [h3] at ho;cases ho;cases hcell
   | mapo ks vs l=>exact h2
   | raw o=>exact h2
   | _=>cases hw
end
end Go.Proofs.Ytlfkfajodnkkhaa.Ax
namespace Go.Proofs.Ytlfkfajodnkkhaa.Sh
open Go Go.RowKit Go.Proofs.YtlfkfajodnkkhaaW.PrintWords Go.Proofs.Ytlfkfajodnkkhaa.Ax
set_option linter.unusedVariables false
set_option linter.unusedSimpArgs false
noncomputable abbrev fS:Func:=Try.f16
noncomputable def cParts:Con:=conAuto Try.prog (fun _=>none) cn0 40 true Try.f37
noncomputable def CSp:FuncId→Option Con
 | 34=>some cSum
 | 35=>some Ax.cMay
 | 36=>some cSized
 | 37=>some cParts
 | 38=>some (cRow T_so)
 | g=>C0 g
theorem cParts_ok (B):ConOk Try.prog B 37 cParts:=conAuto_ok mixed Try.func37 (by kernel_rfl) (by kernel_rfl) none_ok (fun B' w0=>cn0_ok B' w0 _) true B
theorem CSp_ok:∀ B' g φ,CSp g=some φ→ConOk Try.prog B' g φ:=by
 intro B' g φ h
 unfold CSp at h
 split at h
 · cases h;exact cSum_ok B'
 · cases h;exact Ax.cMay_ok B'
 · cases h;exact cSized_ok B'
 · cases h;exact cParts_ok B'
 · cases h;exact cSort_ok B'
 · exact C0_ok B' _ φ h
def sqL:Code→Code
 | .seq a _=>a
 | c=>c
def sqR:Code→Code
 | .seq _ b=>b
 | c=>c
noncomputable def s0:Code:=bodyOf fS
noncomputable def s1:Code:=sqR s0
noncomputable def s2:Code:=sqR s1
noncomputable def s3:Code:=sqR s2
noncomputable def s4:Code:=sqR s3
noncomputable def s5:Code:=sqR s4
noncomputable def s6:Code:=sqR s5
noncomputable def sPs:List Code:=[sqL s0,sqL s1,sqL s2,sqL s3,sqL s4,sqL s5]
noncomputable def sP7:Code:=sqL (sqL s6)
noncomputable def sBlk:Code:=sqR (sqL s6)
noncomputable def sRest:Code:=sqR s6
theorem split_code:bodyOf fS=spineC sPs (.seq (.seq sP7 sBlk) sRest):=by kernel_rfl
def rfAsg:Code→Code
 | .block _ (.rangeFunc _ _ a _)=>a
 | c=>c
def rfBody:Code→Code
 | .block _ (.rangeFunc _ _ _ b)=>b
 | c=>c
noncomputable def sAsg:Code:=rfAsg sBlk
noncomputable def sBody:Code:=rfBody sBlk
theorem blk_code:sBlk = .block 0 (.rangeFunc (.tmp 37) #[38] sAsg sBody):=by kernel_rfl
theorem asg_plain:plainC sAsg=true:=by kernel_rfl
theorem body_plain:plainC sBody=true:=by kernel_rfl
abbrev tIs:TypeId:=50
abbrev tI:TypeId:=3
abbrev tPs:TypeId:=87
abbrev tU:TypeId:=85
abbrev tP:TypeId:=92
def σ0 (total:Int) (ws:List Int):St:=⟨[(0,vi total),(1,.all 0)],[(0,.arg sI ws)],1⟩
def zr (ws:List Int):List Int:=List.replicate (ws.length:Int).toNat 0
def σa (total:Int) (ws:List Int) (all left:Int):St :=
 ⟨[(0,vi total),(1,.all 0),(6,vi all),(8,.ptr 1 0),(9,.ptr 2 0),(10,.ptr 3 0)],[(0,.arg sI ws),(1,.cells tIs [.all 4]),(2,.cells tI [vi left]),(3,.cells tPs [.v (.slice none 0 0)]),(4,.row tI sI (zr ws))],6⟩
def fnP:SV:=.fn (.func 53) [] [.ptr 4 0,.ptr 5 0,.ptr 6 0]
def σ1 (total:Int) (ws:List Int) (all left size:Int):St :=
 ⟨[(0,vi total),(8,.ptr 1 0),(9,.ptr 2 0),(10,.ptr 3 0),(37,fnP)],[(0,.arg sI ws),(1,.cells tIs [.all 7]),(2,.cells tI [vi left]),(3,.cells tPs [.v (.slice none 0 0)]),(4,.cells tIs [.all 0]),(5,.cells tU [uv size]),(6,.cells tI [vi all]),(7,.row tI sI (zr ws))],9⟩
noncomputable abbrev evS {β:Type} (T:Nat→Option (List Nat × List (Nat × TypeId × List Sc))) (F:Nat) (c:Code) (σ:St) (K:Ex→St→Option β):Option β:=ev (eff Try.prog CSp) fS.ntmps (cnRow 1 T) F c σ K
def TSp:Nat→Option (List Nat × List (Nat × TypeId × List Sc))
 | 14=>some ([0,8,57,58,59],[])
 | 20=>some ([8,74,75],[])
 | _=>none
theorem pre_eq (F:Nat) (total:Int) (ws:List Int):evS TSp F (spineC sPs .skip) (σ0 total ws) (Kn [0,1,6,8,9,10] 1) =
 sel (!Ax.mayB total) none (sel (!(sumV ws).2) none (sel (decide (0≤(ws.length:Int)) && decide ((ws.length:Int)≤1000000000)) (sel (decide ((ws.length:Int)=(ws.length:Int))) (some (σa total ws (sumV ws).1 (IT.wrap (sizedV total)))) none) none)):=by kernel_rfl
theorem p7_eq (F:Nat) (total:Int) (ws:List Int) (all left:Int):evS TSp F sP7 (σa total ws all left) (Kn [0,8,9,10,37] 1)=some (σ1 total ws all left (sizedV total)):=by kernel_rfl
def hpR (ws:List Int) (all size left:Int) (outs:List Int) (ps:List HP):Hp :=
 [(0,.arg sI ws),(1,.cells tIs [.all 7]),(2,.cells tI [vi left]),(3,.cells tPs [.all 8]),(4,.cells tIs [.all 0]),(5,.cells tU [uv size]),(6,.cells tI [vi all]),(7,.row tI sI outs),(8,.row tP stP ps)]
abbrev sv3 (x:HP):SV:=.agg [vi x.1,vi x.2.1,uv x.2.2]
def σs (ws:List Int) (all size left:Int) (outs:List Int) (ps:List HP) (x:HP):St:=⟨[(8,.ptr 1 0),(9,.ptr 2 0),(10,.ptr 3 0),(38,sv3 x)],hpR ws all size left outs ps,9⟩
def σt (ws:List Int) (all size left:Int) (outs:List Int) (ps:List HP) (x:HP):St:=⟨[(8,.ptr 1 0),(9,.ptr 2 0),(10,.ptr 3 0),(11,.ptr 9 0)],hpR ws all size left outs ps ++ [(9,.cells tP [vi x.1,vi x.2.1,uv x.2.2])],19⟩
theorem asg_eq (F:Nat) (ws:List Int) (all size left:Int) (outs:List Int) (ps:List HP) (x:HP):evS TSp F sAsg (σs ws all size left outs ps x) (Kn [8,9,10,11] 9)=some (σt ws all size left outs ps x):=by kernel_rfl
def σe (ws:List Int) (all size left:Int) (outs:List Int) (ps:List HP):St:=⟨[(10,.ptr 3 0)],hpR ws all size left outs ps,17⟩
theorem body_eq (F:Nat) (ws:List Int) (all size left:Int) (outs:List Int) (ps:List HP) (x:HP):evS TSp F sBody (σt ws all size left outs ps x) (Kn [10] 8) =
 idxP outs x.1 (sel (Nat.ble (ps.length+1) 1000000000) (some (σe ws all size (IT.wrap (left - x.2.1)) (outs.set x.1.toNat x.2.1) (ps ++ [x]))) none):=by kernel_rfl
end Go.Proofs.Ytlfkfajodnkkhaa.Sh
namespace Go.Proofs.Ytlfkfajodnkkhaa.Sh
open Go Go.RowKit Go.Proofs.YtlfkfajodnkkhaaW.PrintWords Go.Proofs.Ytlfkfajodnkkhaa.Ax
set_option linter.unusedVariables false
set_option linter.unusedSimpArgs false
abbrev SO:=Option (SV × Hp)
def endH (ws outs:List Int):Hp:=[(0,.arg sI ws),(1,.row tI sI outs)]
def endS (ws outs:List Int):SO:=some (.tup [.all 1,vi 0],endH ws outs)
def idxS {β:Type} (m:Nat) (qs:List HP) (i:Int) (x:Option β):Option β:=sel (decide (0≤i)) (sel (decide (i<(m:Int))) (sel (decide (0+i.toNat<qs.length)) (sel (decide (0+i.toNat<qs.length)) x none) none) none) none
def rAz (l:List HP) (i:Int):HP:=List.getD l (0+i.toNat) (0,0,0)
noncomputable def L20 (F kk:Nat) (ws:List Int) (n:Int) (outs:List Int) (i:Int):SO:=loopAt (eff Try.prog CSp) fS.ntmps (cnRow 1 TSp) F Try.prog fS (KG (gcSt [0] 1) 1) [.R,.R,.R,.R,.R,.R,.R,.R,.R,.L,.R,.T,.R,.D] kk
 ⟨[(8,.ptr 1 0),(74,vi n),(75,vi i)],[(0,.arg sI ws),(1,.cells tIs [.all 2]),(2,.row tI sI outs)],4⟩
theorem L20_eq (F kk:Nat) (ws:List Int) (n:Int) (outs:List Int) (i:Int):L20 F (kk+1) ws n outs i =
 sel (decide (i<n)) (idxP outs i (idxP outs i (L20 F kk ws n (outs.set i.toNat (IT.wrap (0 - rI outs i))) (IT.wrap (i+1))))) (endS ws outs):=by kernel_rfl
noncomputable def L14 (F kk:Nat) (total:Int) (ws:List Int) (m:Nat) (qs:List HP) (outs:List Int) (i:Int):SO:=loopAt (eff Try.prog CSp) fS.ntmps (cnRow 1 TSp) F Try.prog fS (KG (gcSt [0] 1) 1) [.R,.R,.R,.R,.R,.R,.R,.R,.L,.R,.D] kk
 ⟨[(0,vi total),(8,.ptr 1 0),(57,.slc 2 3 0 m none),(58,vi (m:Int)),(59,vi i)],[(0,.arg sI ws),(1,.cells tIs [.all 3]),(2,.row tP stP qs),(3,.row tI sI outs)],5⟩
theorem L14_eq (F kk:Nat) (total:Int) (ws:List Int) (m:Nat) (qs:List HP) (outs:List Int) (i:Int):L14 F (kk+1) total ws m qs outs i =
 sel (decide (i<(m:Int))) (idxS m qs i (idxP outs (rAz qs i).1 (idxP outs (rAz qs i).1 (L14 F kk total ws m qs (outs.set (rAz qs i).1.toNat (IT.wrap (rI outs (rAz qs i).1+1))) (IT.wrap (i+1))))))
  (sel (decide (total<0)) (L20 F F ws (outs.length:Int) outs 0) (endS ws outs)):=by kernel_rfl
def σ2 (total:Int) (ws:List Int) (all size left:Int) (outs:List Int) (ps:List HP):St:=⟨[(0,vi total),(8,.ptr 1 0),(9,.ptr 2 0),(10,.ptr 3 0)],hpR ws all size left outs ps,17⟩
theorem rest_eq (F:Nat) (total:Int) (ws:List Int) (all size left:Int) (outs:List Int) (ps:List HP):evS TSp F sRest (σ2 total ws all size left outs ps) (finK Try.prog fS (KG (gcSt [0] 1) 1)) =
 sel (cdec (ps.length≤1000∧Asc ps)) (sel (decide (0≤left)) (sel (decide (left≤((sortP ps).length:Int))) (sel (decide (left.toNat≤(sortP ps).length)) (L14 F F total ws left.toNat (sortP ps) outs 0) none) none) none) none:=by kernel_rfl
theorem no_eq (F:Nat) (total:Int) (ws:List Int):(evX Try.prog CSp (cnRow 1 TSp) F fS [qInt,qInts] [qInts,qInt] (total,ws,()):Option (List Int × Int × Unit)) =
 sel (!Ax.mayB total) (some (([]:List Int),(2:Int),())) (sel (!(sumV ws).2) (some (([]:List Int),(2:Int),())) (sel (decide (0≤(ws.length:Int)) && decide ((ws.length:Int)≤1000000000)) (sel (decide ((ws.length:Int)=(ws.length:Int))) none none) none)):=by kernel_rfl
end Go.Proofs.Ytlfkfajodnkkhaa.Sh
namespace Go.Proofs.Ytlfkfajodnkkhaa.Sh
open Go Go.RowKit Go.Proofs.YtlfkfajodnkkhaaW.PrintWords Go.Proofs.Ytlfkfajodnkkhaa.Ax
set_option linter.unusedVariables false
set_option linter.unusedSimpArgs false
theorem cell_block {w:World} {b j:Nat} {v:Value} (h:w.cell? ⟨b,j,none⟩=some v):∃ cs t fz,w.heap[b]? = some (.cells cs t fz):=by
 cases hb:w.heap[b]? with
 | none=>simp [World.cell?,hb] at h
 | some o =>
  cases o<;>first|exact ⟨_,_,_,rfl⟩|(simp [World.cell?,hb] at h)
theorem flat_ints (l:List Int):flat sI l=l.map (fun x=>Value.int .i64 x):=by
 induction l with
 | nil=>rfl
 | cons x l ih =>
  show enc sI x ++ flat sI l=_
  rw [ih];rfl
section
variable (ws:List Int) (all size:Int)
def wfn (j:Nat):Int:=ws.getD j 0
def part (j:Nat):HP:=ShP.partOf size all j (wfn ws j)
def stO (pre:List (Fin ws.length)):List Int:=pre.foldl (fun o (j:Fin ws.length)=>o.set (j:Nat) (part ws all size (j:Nat)).2.1) (zr ws)
def stL (left0:Int) (pre:List (Fin ws.length)):Int:=pre.foldl (fun l (j:Fin ws.length)=>IT.wrap (l - (part ws all size (j:Nat)).2.1)) left0
def stQ (pre:List (Fin ws.length)):List HP:=pre.map fun (j:Fin ws.length)=>part ws all size (j:Nat)
theorem stO_snoc (pre:List (Fin ws.length)) (j:Fin ws.length):stO ws all size (pre ++ [j])=(stO ws all size pre).set (j:Nat) (part ws all size j).2.1:=by simp [stO]
theorem stL_snoc (left0:Int) (pre:List (Fin ws.length)) (j:Fin ws.length):stL ws all size left0 (pre ++ [j])=IT.wrap (stL ws all size left0 pre - (part ws all size j).2.1):=by simp [stL]
theorem stQ_snoc (pre:List (Fin ws.length)) (j:Fin ws.length):stQ ws all size (pre ++ [j])=stQ ws all size pre ++ [part ws all size j]:=by simp [stQ]
theorem zr_len:(zr ws).length=ws.length:=by simp [zr]
theorem stO_len (pre:List (Fin ws.length)):(stO ws all size pre).length=ws.length:=by
 have:∀ (l:List Int),(pre.foldl (fun o (j:Fin ws.length)=>o.set (j:Nat) (part ws all size (j:Nat)).2.1) l).length=l.length:=by
  induction pre with
  | nil=>intro l;rfl
  | cons j pre ih=>intro l;rw [List.foldl_cons,ih,List.length_set]
 exact (this _).trans (zr_len ws)
theorem stQ_len (pre:List (Fin ws.length)):(stQ ws all size pre).length=pre.length:=by simp [stQ]
end
theorem look_in {α:Type} : ∀ {l:List (Nat × α)} {i:Nat} {o:α},Ax.look l i=some o→(i,o)∈l
 | [],i,o,h=>by cases h
 | (k,x) :: l,i,o,h=>by
  simp only [Ax.look] at h
  by_cases e:k=i
  · subst e;rw [Nat.beq_refl] at h;cases h;exact List.mem_cons_self
  · rw [beq_no e] at h;exact List.mem_cons_of_mem _ (look_in h)
theorem look_hpR {ws:List Int} {all size left:Int} {outs:List Int} {ps:List HP} {i:Nat} {o:AObj} (h:Ax.look (hpR ws all size left outs ps) i=some o) :
 (i=0∧o = .arg sI ws)∨(i=1∧o = .cells tIs [.all 7])∨(i=2∧o = .cells tI [vi left])∨(i=3∧o = .cells tPs [.all 8])∨(i=4∧o = .cells tIs [.all 0])∨(i=5∧o = .cells tU [uv size])∨(i=6∧o = .cells tI [vi all])∨(i=7∧o = .row tI sI outs)∨(i=8∧o = .row tP stP ps):=by
 have h1:=look_in h
 simp only [hpR,List.mem_cons,Prod.mk.injEq,List.not_mem_nil,or_false] at h1
 exact h1
structure Inv (w:World) (ρ1:Rho) (ws:List Int) (all size left:Int) (outs:List Int) (ps:List HP) (W:World):Prop where
 ex:∃ ρ,HR (fun b=>w.heap.size≤b) ρ (hpR ws all size left outs ps) W∧Keeps (fun b=>w.heap.size≤b) w W∧∀ i,i<8→ρ i=ρ1 i
theorem hc_hpR {B:Nat→Prop} {ρ:Rho} {W:World} {ws:List Int} {all size left:Int} {outs:List Int} {ps:List HP} (hr:HR B ρ (hpR ws all size left outs ps) W) (hne:ws≠[]):∀ i o,Ax.look (hpR ws all size left outs ps) i=some o→
 match o with | .mapo .. | .raw _=>False | .arg s l=>(ρ i).nil=false→∃ cs t fz,W.heap[(ρ i).blk]? = some (.cells cs t fz)|_=>True:=by
 intro i o ho
 rcases look_hpR ho with ⟨rfl,rfl⟩|⟨rfl,rfl⟩|⟨rfl,rfl⟩|⟨rfl,rfl⟩|⟨rfl,rfl⟩|⟨rfl,rfl⟩|⟨rfl,rfl⟩|⟨rfl,rfl⟩|⟨rfl,rfl⟩<;>try trivial
 intro hn
 rcases (hr.ok 0 _ ho).2 with ⟨h,_⟩|⟨_,_,_,h⟩
 · rw [h] at hn;cases hn
 · cases ws with
   | nil=>exact absurd rfl hne
   | cons x l=>exact cell_block (h 0 (.int .i64 x) rfl)
theorem Inv.own {w:World} {ρ1:Rho} {ws:List Int} {all size left:Int} {outs:List Int} {ps:List HP} {W W':World} {row:Option Nat} (h:Inv w ρ1 ws all size left outs ps W) (hne:ws≠[]) (hg:W.grownBy W' row) (hrow:∀ r,row=some r→w.heap.size≤r∧∃ o:Obj,W.heap[r]? = some o∧o.isCells=false):Inv w ρ1 ws all size left outs ps W':=by
 obtain ⟨ρ,h1,h2,h3⟩:=h.ex
 refine ⟨ρ,h1.own hg (hc_hpR h1 hne) (fun r e=>(hrow r e).2),h2.trans ⟨hg.os,hg.tape,hg.output,hg.size,fun k hk=>?_⟩,h3⟩
 have hk:k<w.heap.size:=Nat.lt_of_not_le hk
 rcases Nat.lt_or_ge k W.heap.size with hlt|hge
 · refine hg.block k hlt fun e=>?_
   have:=(hrow k e.symm).1
   omega
 · have:=h2.size;omega
end Go.Proofs.Ytlfkfajodnkkhaa.Sh
namespace Go.Proofs.Ytlfkfajodnkkhaa.Sh
open Go Go.RowKit Go.Proofs.YtlfkfajodnkkhaaW.PrintWords Go.Proofs.Ytlfkfajodnkkhaa.Ax
set_option linter.unusedVariables false
set_option linter.unusedSimpArgs false
theorem sum_good {ws:List Int} (h:(sumV ws).2=true):1≤ws.length∧ws.length≤256∧goodW ws=true∧(sumV ws).1=ws.sum∧0<ws.sum:=by
 unfold sumV at h ⊢
 cases hb:(decide (ws.length<1) || (decide (256<ws.length) || !goodW ws)) with
 | true=>rw [hb] at h;cases h
 | false =>
  rw [hb] at h
  simp only [Bool.or_eq_false_iff,decide_eq_false_iff_not,Bool.not_eq_false'] at hb
  have h:decide (0<ws.sum)=true:=h
  exact ⟨by omega,by omega,hb.2.2,rfl,of_decide_eq_true h⟩
theorem good_sum:∀ (ws:List Int),goodW ws=true→0≤ws.sum∧ws.sum≤(ws.length:Int) * 1099511627776∧∀ j,0≤ws.getD j 0∧ws.getD j 0≤ws.sum
 | [],_=>⟨by simp,by simp,fun j=>by simp⟩
 | x :: l,h=>by
  simp only [goodW,List.all_cons,Bool.and_eq_true,decide_eq_true_eq] at h
  obtain ⟨h1,h2,h3⟩:=good_sum l h.2
  refine ⟨by rw [List.sum_cons];omega,by rw [List.sum_cons,List.length_cons];omega,fun j=>?_⟩
  cases j with
  | zero=>simp only [List.getD_cons_zero,List.sum_cons];omega
  | succ j =>
   have:=h3 j
   simp only [List.getD_cons_succ,List.sum_cons];omega
theorem size_in {a:Int} (h:Ax.mayB a=true):0≤sizedV a∧sizedV a≤4611686018427387904:=by
 simp only [Ax.mayB,Bool.and_eq_true,decide_eq_true_eq] at h
 unfold sizedV
 by_cases h0:a<0
 · have e:IT.wrap (0 - a) = -a:=by
    show IntKind.i64.wrap _=_
    rw [IntKind.wrap_i64];omega
   rw [decide_eq_true h0,cond_true,e,IntKind.wrap_u64];omega
 · rw [decide_eq_false h0,cond_false,IntKind.wrap_u64];omega
abbrev BS (w:World):Nat→Prop:=fun b=>w.heap.size≤b
theorem wf_hpR (p nx:Nat) (hp:p≤nx) (h9:9≤nx) {ws:List Int} {all size left:Int} {outs:List Int} {ps:List HP} {sl:List (Nat × SV)} (hsl:∀ t s,Ax.look sl t=some s→s.lt nx=true):Wf p ⟨sl,hpR ws all size left outs ps,nx⟩:=by
 refine ⟨hsl,fun i o ho=>?_,hp⟩
 have l9:∀ k,k<9→Nat.blt k nx=true:=fun k hk=>lt_blt (by omega)
 rcases look_hpR ho with ⟨rfl,rfl⟩|⟨rfl,rfl⟩|⟨rfl,rfl⟩|⟨rfl,rfl⟩|⟨rfl,rfl⟩|⟨rfl,rfl⟩|⟨rfl,rfl⟩|⟨rfl,rfl⟩|⟨rfl,rfl⟩<;>refine ⟨by show _<nx;omega,?_⟩<;>first|rfl|(simp only [AObj.lt,ltL,SV.lt,Bool.and_true];exact l9 _ (by decide))
theorem hpR_append {ws:List Int} {all size left:Int} {outs:List Int} {ps:List HP} {i:Nat} {o x:AObj} (h:Ax.look (hpR ws all size left outs ps ++ [(9,x)]) i=some o):Ax.look (hpR ws all size left outs ps) i=some o∨(i=9∧o=x):=by
 rw [look_append] at h
 cases h1:Ax.look (hpR ws all size left outs ps) i with
 | some z=>rw [h1] at h;exact .inl h
 | none =>
  rw [h1] at h
  exact .inr (look_one h)
theorem hpR_left {ws:List Int} {all size left:Int} {outs:List Int} {ps:List HP} {i:Nat} {o x:AObj} (h:Ax.look (hpR ws all size left outs ps) i=some o):Ax.look (hpR ws all size left outs ps ++ [(9,x)]) i=some o:=by
 rw [look_append,h]
theorem inv_of {w W W':World} {ρ1 ρ ρ':Rho} {ws:List Int} {all size left':Int} {outs':List Int} {ps':List HP} {h0 h':Hp} (hw:w.heap.size≤W.heap.size) (hr:HR (BS w) ρ h0 W) (h0a:Ax.look h0 0=some (.arg sI ws)) (hk:Keeps (BS w) w W) (hpin:∀ i,i<8→ρ i=ρ1 i)
 (hr':HR (Bn ρ h0 W) ρ' h' W') (hsub:∀ i o,Ax.look (hpR ws all size left' outs' ps') i=some o→Ax.look h' i=some o) (hk':Keeps (Bn ρ h0 W) W W') (hp':∀ i,i<8→ρ' i=ρ i):Inv w ρ1 ws all size left' outs' ps' W':=by
 have up:∀ b,W.heap.size≤b→BS w b:=fun b hb=>Nat.le_trans hw hb
 refine ⟨ρ',⟨fun i o ho=>hr'.ok i o (hsub i o ho),fun i o ho ho' hn=>Bn.sub hr up _ (hr'.inB i o (hsub i o ho) ho' hn),fun i o ho hs hn=>?_,fun i j o o' ho ho' hw hw' hn hn' hij=>hr'.inj i j o o' (hsub i o ho) (hsub j o' ho') hw hw' hn hn' hij⟩,hk.trans (hk'.widen (Bn.sub hr up)),fun i hi=>(hp' i hi).trans (hpin i hi)⟩
 rcases look_hpR ho with ⟨rfl,rfl⟩|⟨rfl,rfl⟩|⟨rfl,rfl⟩|⟨rfl,rfl⟩|⟨rfl,rfl⟩|⟨rfl,rfl⟩|⟨rfl,rfl⟩|⟨rfl,rfl⟩|⟨rfl,rfl⟩<;>first|(cases hs;done)|skip
 rw [hp' 0 (by decide)] at hn ⊢
 exact hr.arg 0 _ h0a rfl hn
end Go.Proofs.Ytlfkfajodnkkhaa.Sh
namespace Go.Proofs.Ytlfkfajodnkkhaa.Sh
open Go Go.RowKit Go.Shelf Go.Proofs.YtlfkfajodnkkhaaW.PrintWords Go.Proofs.Ytlfkfajodnkkhaa.Ax
set_option linter.unusedVariables false
set_option linter.unusedSimpArgs false
structure Fr (ρ1:Rho) (t:Array Value):Prop where
 sz:t.size=88
 t8:t.getD 8 undef=den ρ1 (.ptr 1 0)
 t9:t.getD 9 undef=den ρ1 (.ptr 2 0)
 t10:t.getD 10 undef=den ρ1 (.ptr 3 0)
theorem den_ptr {ρ ρ':Rho} {i off:Nat} (h:ρ i=ρ' i):den ρ (.ptr i off)=den ρ' (.ptr i off):=by simp only [den,h]
structure Bxd (ρ1:Rho) (n1:Nat) (x:HP) (a:Act) (W:World) (bx:Nat):Prop where
 fr:Fr ρ1 a.tmps
 df:a.defers=[]
 t11:a.tmps.getD 11 undef = .pointer (some ⟨bx,0,none⟩)
 bl:W.heap[bx]? = some (.cells #[.int .i64 x.1,.int .i64 x.2.1,.int .u64 x.2.2] tP (0,0))
 ge:n1≤bx
 far:∃ v,W.heap[(ρ1 3).blk]? = some (.cells #[v] tPs (0,0))∧v.ownBlock≠some bx
theorem Bxd.own {ρ1:Rho} {n1:Nat} {x:HP} {a:Act} {W W':World} {bx:Nat} {row:Option Nat} (h:Bxd ρ1 n1 x a W bx) (hg:W.grownBy W' row) (hrow:∀ r,row=some r→∃ o:Obj,W.heap[r]? = some o∧o.isCells=false):Bxd ρ1 n1 x a W' bx:=by
 have keep:∀ (b:Nat) (cs:Array Value) (t:TypeId),W.heap[b]? = some (Obj.cells cs t (0,0))→W'.heap[b]? = some (Obj.cells cs t (0,0)):=fun b cs t hb=>by
  refine (hg.block b (Array.getElem?_eq_some_iff.1 hb).1 fun e=>?_).trans hb
  obtain ⟨o,h1,h2⟩:=hrow b e.symm
  rw [hb] at h1;cases h1;cases h2
 obtain ⟨v,h1,h2⟩:=h.far
 exact ⟨h.fr,h.df,h.t11,keep _ _ _ h.bl,h.ge,v,keep _ _ _ h1,h2⟩
theorem slots4 {a b c d:SV} {k:Nat} {t:Nat} {s:SV} (h:Ax.look [(8,a),(9,b),(10,c),(k,d)] t=some s):(t=8∧s=a)∨(t=9∧s=b)∨(t=10∧s=c)∨(t=k∧s=d):=by
 have:=look_in h
 simpa [Prod.mk.injEq] using this
theorem asg_step (l m:Nat) {w W:World} {ρ1 ρ:Rho} {n1:Nat} {ws:List Int} {all size left:Int} {outs:List Int} {ps:List HP} {x:HP} {a:Act} (hw:w.heap.size≤W.heap.size) (hn1:n1≤W.heap.size) (hr:HR (BS w) ρ (hpR ws all size left outs ps) W) (hk:Keeps (BS w) w W) (hpin:∀ i,i<8→ρ i=ρ1 i)
 (hf:Fr ρ1 a.tmps) (ha:a.tmps.getD 38 undef = .agg #[.int .i64 x.1,.int .i64 x.2.1,.int .u64 x.2.2]) (hd:a.defers=[]) {Q:Exit→Act→World→Prop}
 (hQ:∀ a' W' bx,Keeps (Bn ρ (hpR ws all size left outs ps) W) W W'→Inv w ρ1 ws all size left outs ps W'→Bxd ρ1 n1 x a' W' bx→Q .normal a' W'):sAsg.wpIn (Fence.wide.inRound l) m Try.prog Q a W:=by
 have up:∀ b,W.heap.size≤b→Bn ρ (hpR ws all size left outs ps) W b:=fun b hb=>.inl hb
 have hE:Sound (eff Try.prog CSp) Try.prog (Bn ρ (hpR ws all size left outs ps) W) ⟨W,ρ,9,[]⟩ fS.ntmps:=eff_sound (CSp_ok _)
 have hR:R (Bn ρ (hpR ws all size left outs ps) W) ⟨W,ρ,9,[]⟩ fS.ntmps (σs ws all size left outs ps x) ρ a W:=by
  refine ⟨hf.sz,hd,fun t s hs=>?_,hr.narrow,up,Keeps.refl _ _,fun i hi=>rfl⟩
  rcases slots4 hs with ⟨rfl,rfl⟩|⟨rfl,rfl⟩|⟨rfl,rfl⟩|⟨rfl,rfl⟩
  · exact ⟨by decide +kernel,hf.t8.trans (den_ptr (hpin 1 (by decide)).symm)⟩
  · exact ⟨by decide +kernel,hf.t9.trans (den_ptr (hpin 2 (by decide)).symm)⟩
  · exact ⟨by decide +kernel,hf.t10.trans (den_ptr (hpin 3 (by decide)).symm)⟩
  · exact ⟨by decide +kernel,ha⟩
 have hwf:Wf 9 (σs ws all size left outs ps x):=wf_hpR 9 9 (Nat.le_refl _) (Nat.le_refl _) (fun t s hs=>by
  rcases slots4 hs with ⟨rfl,rfl⟩|⟨rfl,rfl⟩|⟨rfl,rfl⟩|⟨rfl,rfl⟩<;>rfl)
 refine chunkIn (F:=1) mixed hE asg_plain (p:=9) (Nat.le_refl _) (asg_eq 1 ws all size left outs ps x) hwf hR (fun ρ' a' W' hw' hR'=>?_)
 have h9:=hR'.hr.ok 9 _ (show Ax.look (hpR ws all size left outs ps ++ [(9,.cells tP [vi x.1,vi x.2.1,uv x.2.2])]) 9=some (.cells tP [vi x.1,vi x.2.1,uv x.2.2]) from rfl)
 obtain ⟨k1,k2,k3⟩:=h9
 have h3:=hR'.hr.ok 3 _ (show Ax.look (hpR ws all size left outs ps ++ [(9,.cells tP [vi x.1,vi x.2.1,uv x.2.2])]) 3=some (.cells tPs [.all 8]) from rfl)
 obtain ⟨g1,g2,g3⟩:=h3
 have pin:∀ i,i<9→ρ' i=ρ i:=hR'.pn
 have l9:Ax.look (hpR ws all size left outs ps ++ [(9,AObj.cells tP [vi x.1,vi x.2.1,uv x.2.2])]) 9=some (.cells tP [vi x.1,vi x.2.1,uv x.2.2]):=rfl
 refine hQ a' W' (ρ' 9).blk hR'.ks (inv_of hw hr rfl hk hpin hR'.hr (fun i o ho=>hpR_left ho) hR'.ks (fun i hi=>pin i (by omega))) ⟨⟨hR'.sz,?_,?_,?_⟩,hR'.df,?_,?_,?_,?_⟩
 · exact (hR'.sl 8 (.ptr 1 0) rfl).2.trans (den_ptr ((pin 1 (by decide)).trans (hpin 1 (by decide))))
 · exact (hR'.sl 9 (.ptr 2 0) rfl).2.trans (den_ptr ((pin 2 (by decide)).trans (hpin 2 (by decide))))
 · exact (hR'.sl 10 (.ptr 3 0) rfl).2.trans (den_ptr ((pin 3 (by decide)).trans (hpin 3 (by decide))))
 · refine (hR'.sl 11 (.ptr 9 0) rfl).2.trans ?_
   simp only [den,k2,Nat.add_zero]
 · exact k3
 · rcases hR'.hr.inB 9 _ l9 rfl k1 with hb|⟨i,o,ho,how,hn,hb⟩
   · exact Nat.le_trans hn1 hb
   · exfalso
     have hi9:i<9:=by
      rcases look_hpR ho with ⟨rfl,_⟩|⟨rfl,_⟩|⟨rfl,_⟩|⟨rfl,_⟩|⟨rfl,_⟩|⟨rfl,_⟩|⟨rfl,_⟩|⟨rfl,_⟩|⟨rfl,_⟩<;>decide
     rw [← pin i hi9] at hn hb
     exact hR'.hr.inj i 9 o _ (hpR_left ho) l9 how rfl hn k1 (by omega) hb
 · rw [pin 3 (by decide),hpin 3 (by decide)] at g3
   refine ⟨den ρ' (.all 8),g3,?_⟩
   have h8:=hR'.hr.ok 8 _ (show Ax.look (hpR ws all size left outs ps ++ [(9,.cells tP [vi x.1,vi x.2.1,uv x.2.2])]) 8=some (.row tP stP ps) from rfl)
   rcases h8.2 with ⟨h1,_,_,h2⟩|⟨h1,_⟩
   · simp only [den,h1,if_true,h2,Value.ownBlock]
     exact fun e=>by cases e
   · simp only [den,h1,Bool.false_eq_true,if_false,Value.ownBlock]
     intro e
     exact hR'.hr.inj 8 9 _ _ (show Ax.look (hpR ws all size left outs ps ++ [(9,.cells tP [vi x.1,vi x.2.1,uv x.2.2])]) 8=some (.row tP stP ps) from rfl) l9 rfl rfl h1 k1 (by decide) (Option.some.inj e)
theorem body_step (l m:Nat) {w W:World} {ρ1 ρ:Rho} {n1:Nat} {ws:List Int} {all size left:Int} {outs:List Int} {ps:List HP} {x:HP} {a:Act} {bx:Nat} (hw:w.heap.size≤W.heap.size) (hwn:w.heap.size≤n1) (hr:HR (BS w) ρ (hpR ws all size left outs ps) W) (hk:Keeps (BS w) w W) (hpin:∀ i,i<8→ρ i=ρ1 i)
 (hlow:∀ i,1≤i→i<8→(ρ1 i).blk<n1) (hb:Bxd ρ1 n1 x a W bx) (hx0:0≤x.1) (hx1:x.1.toNat<outs.length) (hps:ps.length≤1000) {Q:Exit→Act→World→Prop}
 (hQ:∀ a' (W':World),(∀ (k:Nat) (o:Obj),W.heap[k]? = some o→o.isCells=false→W'.heap[k]? = some o)→Keeps (BS w) W W'→Inv w ρ1 ws all size (IT.wrap (left - x.2.1)) (outs.set x.1.toNat x.2.1) (ps ++ [x]) W'→Q .normal a' W'):sBody.wpIn (Fence.wide.inRound l) m Try.prog Q a W:=by
 obtain ⟨ρ9,hρ9⟩:∃ ρ9,ρ9=setRho ρ 9 ⟨bx,0,0,0,false,none⟩:=⟨_,rfl⟩
 have r9:ρ9 9=⟨bx,0,0,0,false,none⟩:=by rw [hρ9];exact setRho_same _ _ _
 have rn:∀ i,i≠9→ρ9 i=ρ i:=fun i hi=>by rw [hρ9];exact setRho_other _ _ hi
 obtain ⟨hb9,hhb⟩:∃ H,H=hpR ws all size left outs ps ++ [(9,AObj.cells tP [vi x.1,vi x.2.1,uv x.2.2])]:=⟨_,rfl⟩
 have n9:∀ {i o},Ax.look (hpR ws all size left outs ps) i=some o→i≠9:=by
  intro i o ho
  rcases look_hpR ho with ⟨rfl,_⟩|⟨rfl,_⟩|⟨rfl,_⟩|⟨rfl,_⟩|⟨rfl,_⟩|⟨rfl,_⟩|⟨rfl,_⟩|⟨rfl,_⟩|⟨rfl,_⟩<;>decide
 -- the box lies apart
 have apart:∀ i o,Ax.look (hpR ws all size left outs ps) i=some o→o.own=true→(ρ i).nil=false→(ρ i).blk≠bx:=by
  intro i o ho how hn e
  have lo:1≤i→i<8→False:=fun h1 h2=>by
   have:=hlow i h1 h2
   rw [hpin i h2] at e
   have:=hb.ge
   omega
  rcases look_hpR ho with ⟨rfl,rfl⟩|⟨rfl,_⟩|⟨rfl,_⟩|⟨rfl,_⟩|⟨rfl,_⟩|⟨rfl,_⟩|⟨rfl,_⟩|⟨rfl,_⟩|⟨rfl,_⟩
  · cases how
  · exact lo (by decide) (by decide)
  · exact lo (by decide) (by decide)
  · exact lo (by decide) (by decide)
  · exact lo (by decide) (by decide)
  · exact lo (by decide) (by decide)
  · exact lo (by decide) (by decide)
  · exact lo (by decide) (by decide)
  · obtain ⟨v,h1,h2⟩:=hb.far
    obtain ⟨_,_,g3⟩:=hr.ok 3 _ (show Ax.look (hpR ws all size left outs ps) 3=some (.cells tPs [.all 8]) from rfl)
    rw [hpin 3 (by decide),h1] at g3
    have hv:v=den ρ (.all 8):=by
     have:=Obj.cells.inj (Option.some.inj g3)
     have h3:=this.1
     exact (Array.mk.inj h3 |> List.cons.inj).1
    apply h2
    rw [hv]
    simp only [den,hn,Bool.false_eq_true,if_false,Value.ownBlock]
    rw [e]
 have hr9:HR (BS w) ρ9 hb9 W:=by
  rw [hhb]
  refine ⟨fun i o ho=>?_,fun i o ho how hn=>?_,fun i o ho hs hn=>?_,fun i j o o' ho ho' hwi hwj hn hn' hij=>?_⟩
  · rcases hpR_append ho with ho|⟨rfl,rfl⟩
    · rw [rn i (n9 ho)]
      refine (hr.ok i o ho).keep (fun ty c e=>?_) (fun _=>rfl) (Nat.le_refl _)
      have hfr:∀ s:SV,s.free 9 10=true→den ρ9 s=den ρ s:=fun s hs=>den_free (lo:=9) (hi:=10) (fun i hi=>rn i (by omega)) s hs
      rcases look_hpR ho with ⟨rfl,rfl⟩|⟨rfl,rfl⟩|⟨rfl,rfl⟩|⟨rfl,rfl⟩|⟨rfl,rfl⟩|⟨rfl,rfl⟩|⟨rfl,rfl⟩|⟨rfl,rfl⟩|⟨rfl,rfl⟩<;>rcases e with e|e<;>cases e<;>exact congrArg (fun z=>[z]) (hfr _ rfl)
    · rw [r9];exact ⟨rfl,rfl,hb.bl⟩
  · rcases hpR_append ho with ho|⟨rfl,rfl⟩
    · rw [rn i (n9 ho)] at hn ⊢;exact hr.inB i o ho how hn
    · rw [r9];exact Nat.le_trans hwn hb.ge
  · rcases hpR_append ho with ho|⟨rfl,rfl⟩
    · rw [rn i (n9 ho)] at hn ⊢;exact hr.arg i o ho hs hn
    · cases hs
  · rcases hpR_append ho with ho|⟨rfl,rfl⟩<;>rcases hpR_append ho' with ho'|⟨rfl,rfl⟩
    · rw [rn i (n9 ho)] at hn ⊢;rw [rn j (n9 ho')] at hn' ⊢;exact hr.inj i j o o' ho ho' hwi hwj hn hn' hij
    · rw [rn i (n9 ho)] at hn ⊢;rw [r9];exact apart i o ho hwi hn
    · rw [rn j (n9 ho')] at hn' ⊢;rw [r9];exact fun e=>apart j o' ho' hwj hn' e.symm
    · exact absurd rfl hij
 have hE:Sound (eff Try.prog CSp) Try.prog (Bn ρ9 hb9 W) ⟨W,ρ9,8,[]⟩ fS.ntmps:=eff_sound (CSp_ok _)
 have hR:R (Bn ρ9 hb9 W) ⟨W,ρ9,8,[]⟩ fS.ntmps (σt ws all size left outs ps x) ρ9 a W:=by
  refine ⟨hb.fr.sz,hb.df,fun t s hs=>?_,by have:=hr9.narrow;rw [hhb] at this ⊢;exact this,fun b hb=>.inl hb,Keeps.refl _ _,fun i hi=>rfl⟩
  rcases slots4 hs with ⟨rfl,rfl⟩|⟨rfl,rfl⟩|⟨rfl,rfl⟩|⟨rfl,rfl⟩
  · exact ⟨by decide +kernel,hb.fr.t8.trans (den_ptr ((rn 1 (by decide)).trans (hpin 1 (by decide))).symm)⟩
  · exact ⟨by decide +kernel,hb.fr.t9.trans (den_ptr ((rn 2 (by decide)).trans (hpin 2 (by decide))).symm)⟩
  · exact ⟨by decide +kernel,hb.fr.t10.trans (den_ptr ((rn 3 (by decide)).trans (hpin 3 (by decide))).symm)⟩
  · refine ⟨by decide +kernel,hb.t11.trans ?_⟩
    simp only [den,r9,Nat.add_zero]
 have hwf:Wf 8 (σt ws all size left outs ps x):=by
  refine ⟨fun t s hs=>?_,fun i o ho=>?_,show 8≤19 by decide⟩
  · rcases slots4 hs with ⟨rfl,rfl⟩|⟨rfl,rfl⟩|⟨rfl,rfl⟩|⟨rfl,rfl⟩<;>rfl
  · rcases hpR_append ho with ho|⟨rfl,rfl⟩
    · exact (wf_hpR 8 19 (by decide) (by decide) (sl:=[]) (fun t s hs=>by cases hs)).hp i o ho
    · exact ⟨show 9<19 by decide,rfl⟩
 have hbe:evS TSp 1 sBody (σt ws all size left outs ps x) (Kn [10] 8)=some (σe ws all size (IT.wrap (left - x.2.1)) (outs.set x.1.toNat x.2.1) (ps ++ [x])):=by
  rw [body_eq,Nat.ble_eq_true_of_le (show ps.length+1≤1000000000 by omega),sel_true]
  unfold idxP
  rw [decide_eq_true hx0,decide_eq_true (show x.1<(outs.length:Int) by omega),decide_eq_true hx1]
  rfl
 refine chunkIn (F:=1) mixed hE body_plain (p:=8) (Nat.le_refl _) hbe hwf hR (fun ρ' a' W' hw' hR'=>?_)
 have hup:∀ b,W.heap.size≤b→BS w b:=fun b hb=>Nat.le_trans hw hb
 refine hQ a' W' (fun k o ho hc=>keeps_from ⟨_,hr9⟩ (fun i o ho=>?_) hR'.ks k o ho hc) (hR'.ks.widen (Bn.sub hr9 hup)) (inv_of hw hr9 (by rw [hhb];rfl) hk (fun i hi=>(rn i (by omega)).trans (hpin i hi)) hR'.hr (fun i o ho=>ho) hR'.ks (fun i hi=>hR'.pn i hi))
 rw [hhb] at ho
 rcases hpR_append ho with ho|⟨rfl,rfl⟩
 · rcases look_hpR ho with ⟨rfl,rfl⟩|⟨rfl,rfl⟩|⟨rfl,rfl⟩|⟨rfl,rfl⟩|⟨rfl,rfl⟩|⟨rfl,rfl⟩|⟨rfl,rfl⟩|⟨rfl,rfl⟩|⟨rfl,rfl⟩<;>trivial
 · trivial
end Go.Proofs.Ytlfkfajodnkkhaa.Sh
namespace Go.Proofs.Ytlfkfajodnkkhaa.Sh
open Go Go.RowKit Go.Shelf Go.Proofs.YtlfkfajodnkkhaaW.PrintWords Go.Proofs.Ytlfkfajodnkkhaa.Ax
set_option linter.unusedVariables false
set_option linter.unusedSimpArgs false
abbrev qS2:List Pc:=[qInts,qInt]
theorem KS_fin {σ:St} {y:SV × Hp} {e:Ex} (h:finK Try.prog fS (KG (gcSt [0] 1) 1) e σ=some y):∃ lr,resS Try.prog σ fS.results.toList=some lr∧KG (gcSt [0] 1) 1 (resV lr) σ.hp=some y:=by
 have key:(match resS Try.prog σ fS.results.toList with|none=>none|some l=>KG (gcSt [0] 1) 1 (resV l) σ.hp)=some y→∃ lr,resS Try.prog σ fS.results.toList=some lr∧KG (gcSt [0] 1) 1 (resV lr) σ.hp=some y:=by
  intro h
  cases hr:resS Try.prog σ fS.results.toList with
  | none=>rw [hr] at h;cases h
  | some l=>rw [hr] at h;exact ⟨l,rfl,h⟩
 cases e with
 | normal=>exact key h
 | exit id=>cases h
 | ret=>exact key h
theorem KG_R {B:Nat→Prop} {w0:Base} {p:Nat} {s r:SV} {h hp':Hp} {ρ:Rho} {w:World} (hp:w0.pin≤p) (hk:KG (gcSt [0] p) p s h=some (r,hp')) (hr:HR B ρ h w) (up:∀ b,w0.w.heap.size≤b→B b) (ks:Keeps B w0.w w) (pn:∀ i,i<w0.pin→ρ i=w0.ρ i) :
 ∃ ρ2,den ρ s=den ρ2 r∧HR B ρ2 hp' w∧∀ i,i<w0.pin→ρ2 i=w0.ρ i:=by
 unfold KG at hk
 cases hg:gcSt [0] p ⟨[(0,s)],h,0⟩ with
 | none=>rw [hg] at hk;cases hk
 | some σ =>
  rw [hg] at hk
  simp only at hk
  cases hl:Ax.look σ.sl 0 with
  | none=>rw [hl] at hk;cases hk
  | some s' =>
   rw [hl] at hk
   simp only [forceV_eq,forceHp_eq] at hk
   cases hb:Nat.ble σ.nx (p+wide) with
   | false=>rw [hb] at hk;cases hk
   | true =>
    rw [hb] at hk
    cases hk
    have hR:R B w0 1 ⟨[(0,s)],h,0⟩ ρ { tmps:=#[den ρ s],defers:=w0.dfs } w:=by
     refine ⟨rfl,rfl,fun t s0 hs=>?_,hr,up,ks,pn⟩
     have h1:=look_in hs
     simp only [List.mem_singleton,Prod.mk.injEq] at h1
     obtain ⟨rfl,rfl⟩:=h1
     exact ⟨by omega,rfl⟩
    obtain ⟨_,hgo⟩:=gc_GOk p B w0 1 _ _ hp hg
    obtain ⟨ρ2,hR2⟩:=hgo _ _ _ hR
    exact ⟨ρ2,(hR2.sl 0 r hl).2,hR2.hr,hR2.pn⟩
theorem slots_2 {a b c d:SV} {t:Nat} {s:SV} (h:Ax.look [(0,a),(8,b),(9,c),(10,d)] t=some s):(t=0∧s=a)∨(t=8∧s=b)∨(t=9∧s=c)∨(t=10∧s=d):=by
 have:=look_in h
 simpa [Prod.mk.injEq] using this
theorem res_two (t:Array Value) (w:World):(results fS t).run Try.prog w = .ok (.tuple #[t.getD 4 undef,t.getD 5 undef]) w:=by
 simp [results,Try.f16,go_sem]
theorem kx_end (ws outs:List Int):KX qS2 (.tup [.all 1,vi 0]) (endH ws outs)=some (outs,(0:Int),()):=by kernel_rfl
set_option maxHeartbeats 1000000 in
theorem split_call (total:Int) (ws:List Int) (hmay:Ax.mayB total=true) (hok:(sumV ws).2=true) (outs:List Int) (F:Nat)
 (hrest:evS TSp F sRest (σ2 total ws (sumV ws).1 (sizedV total) (stL ws (sumV ws).1 (sizedV total) (IT.wrap (sizedV total)) (ShP.upF ws.length ws.length)) (stO ws (sumV ws).1 (sizedV total) (ShP.upF ws.length ws.length)) (stQ ws (sumV ws).1 (sizedV total) (ShP.upF ws.length ws.length))) (finK Try.prog fS (KG (gcSt [0] 1) 1))=endS ws outs)
 (ρc:Rho) (w:World) (hr:HR (BS w) ρc [(0,.arg sI ws)] w) :
 Calls Try.prog 16 (denL ρc [vi total,.all 0]).toArray w fun e w'=>∃ ρ' s h',e = .returned (den ρ' s)∧KX qS2 s h'=some (outs,(0:Int),())∧HR (BS w) ρ' h' w'∧Keeps (BS w) w w':=by
 obtain ⟨n1,n2,ng,na,np⟩:=sum_good hok
 obtain ⟨q1,q2,q3⟩:=good_sum ws ng
 have hsz:=size_in hmay
 obtain ⟨all,hall⟩:∃ all,all=(sumV ws).1:=⟨_,rfl⟩
 obtain ⟨size,hsize⟩:∃ size,size=sizedV total:=⟨_,rfl⟩
 obtain ⟨left0,hleft⟩:∃ left0,left0=IT.wrap size:=⟨_,rfl⟩
 rw [← hall,← hsize,← hleft] at hrest
 rw [← hall] at na
 rw [← hsize] at hsz
 have hne:ws≠[]:=fun e=>by rw [e] at n1;simp at n1
 have hbody:fS.body=some (bodyOf fS):=by kernel_rfl
 have hE0:Sound (eff Try.prog CSp) Try.prog (BS w) ⟨w,ρc,1,[]⟩ fS.ntmps:=eff_sound (CSp_ok _)
 have hcn:∀ (B:Nat→Prop) (b:Base),b.pin≤1→CnOk (cnRow 1 TSp) B b fS.ntmps:=fun B b hb=>cnRow_ok hb
 refine (callsIn_wide (n:=9)).1 (callsIn_of_wp_marks Try.func16 hbody trivial ?_ rfl)
 rw [split_code]
 refine wpIn_wide.2 ?_
 have hR0:R (BS w) ⟨w,ρc,1,[]⟩ fS.ntmps (σ0 total ws) ρc { tmps:=(denL ρc [vi total,.all 0]).toArray ++ Array.replicate (fS.ntmps - (denL ρc [vi total,.all 0]).toArray.size) undef,defers:=[] } w:=by
  refine ⟨by simp [denL],rfl,fun t s hs=>?_,hr,fun b hb=>hb,Keeps.refl _ _,fun i hi=>rfl⟩
  have h1:=look_in hs
  simp only [σ0,List.mem_cons,Prod.mk.injEq,List.not_mem_nil,or_false] at h1
  rcases h1 with ⟨rfl,rfl⟩|⟨rfl,rfl⟩
  · refine ⟨by decide +kernel,?_⟩
    rw [Array.getD_eq_getD_getElem?,Array.getElem?_append_left (by simp [denL])]
    rfl
  · refine ⟨by decide +kernel,?_⟩
    rw [Array.getD_eq_getD_getElem?,Array.getElem?_append_left (by simp [denL])]
    rfl
 have hw0:Wf 1 (σ0 total ws):=by
  refine ⟨fun t s hs=>?_,fun i o ho=>?_,Nat.le_refl _⟩
  · have h1:=look_in hs
    simp only [σ0,List.mem_cons,Prod.mk.injEq,List.not_mem_nil,or_false] at h1
    rcases h1 with ⟨rfl,rfl⟩|⟨rfl,rfl⟩<;>rfl
  · obtain ⟨rfl,rfl⟩:=look_one ho
    exact ⟨by show 0<1;decide,rfl⟩
 have hpre:ev (eff Try.prog CSp) fS.ntmps (cnRow 1 TSp) 1 (spineC sPs .skip) (σ0 total ws) (Kn [0,1,6,8,9,10] 1)=some (σa total ws all left0):=by
  refine (pre_eq 1 total ws).trans ?_
  rw [hmay,hok,decide_eq_true (by omega),decide_eq_true (by omega),decide_eq_true rfl,hall,hleft,hsize]
  rfl
 refine spineC_run mixed hE0 (hcn _ _ (Nat.le_refl _)) (p:=1) (Nat.le_refl _) (fun ρa aa wa hwa hRa=>?_) sPs (σ0 total ws) hpre ρc _ w hw0 hR0
 refine wp_seq (wp_seq (chunk (F:=1) (S:=[0,8,9,10,37]) (p:=1) mixed hE0 (hcn _ _ (Nat.le_refl _)) (Nat.le_refl _) (by have:=p7_eq 1 total ws all left0;rw [← hsize] at this;exact this) hwa hRa fun ρ1 a1 w1 hw1 hR1=>?_))
 show sBlk.wp _ _ a1 w1
 rw [blk_code]
 refine wp_block ((wpIn_wide (n:=9)).1 ?_)
 -- what stands in memory
 have hz:w.heap.size≤w1.heap.size:=hR1.ks.size
 have hlk:∀ i o,Ax.look (σ1 total ws all left0 size).hp i=some o→(i=0∧o = .arg sI ws)∨(i=1∧o = .cells tIs [.all 7])∨(i=2∧o = .cells tI [vi left0])∨(i=3∧o = .cells tPs [.v (.slice none 0 0)])∨(i=4∧o = .cells tIs [.all 0])∨(i=5∧o = .cells tU [uv size])∨(i=6∧o = .cells tI [vi all])∨(i=7∧o = .row tI sI (zr ws)):=by
  intro i o h
  have h1:=look_in h
  simp only [σ1,List.mem_cons,Prod.mk.injEq,List.not_mem_nil,or_false] at h1
  exact h1
 have z0:=hr.ok 0 (.arg sI ws) rfl
 have p0:ρ1 0=ρc 0:=hR1.pn 0 (show 0<1 by decide)
 obtain ⟨a0,a00⟩:=z0
 rcases a00 with ⟨_,h⟩|⟨a1',a2,a3,a4⟩
 · exact absurd h hne
 have ok4:=hR1.hr.ok 4 (.cells tIs [.all 0]) rfl
 have ok5:=hR1.hr.ok 5 (.cells tU [uv size]) rfl
 have ok6:=hR1.hr.ok 6 (.cells tI [vi all]) rfl
 have b5l:(ρ1 5).blk<w1.heap.size:=(Array.getElem?_eq_some_iff.1 ok5.2.2).1
 have b6l:(ρ1 6).blk<w1.heap.size:=(Array.getElem?_eq_some_iff.1 ok6.2.2).1
 have b4l:(ρ1 4).blk<w1.heap.size:=(Array.getElem?_eq_some_iff.1 ok4.2.2).1
 have hlow:∀ i,1≤i→i<8→(ρ1 i).blk<w1.heap.size:=by
  intro i h1 h2
  have key:∀ o,Ax.look (σ1 total ws all left0 size).hp i=some o→o≠.dead→(ρ1 i).nil=false→(ρ1 i).blk<w1.heap.size:=fun o ho hd hn=>(hR1.hr.ok i o ho).lt hd hn
  have cellc:∀ ty c,Ax.look (σ1 total ws all left0 size).hp i=some (.cells ty c)→(ρ1 i).blk<w1.heap.size:=fun ty c ho=>key _ ho (fun e=>by cases e) (hR1.hr.ok i _ ho).1
  match i,h1,h2 with
  | 1,_,_=>exact cellc _ _ rfl
  | 2,_,_=>exact cellc _ _ rfl
  | 3,_,_=>exact cellc _ _ rfl
  | 4,_,_=>exact cellc _ _ rfl
  | 5,_,_=>exact cellc _ _ rfl
  | 6,_,_=>exact cellc _ _ rfl
  | 7,_,_ =>
   have h7:=hR1.hr.ok 7 (.row tI sI (zr ws)) rfl
   rcases h7.2 with ⟨_,h,_⟩|⟨hn,_⟩
   · have h9:ws.length=0:=(zr_len ws).symm.trans (congrArg List.length h)
     omega
   · exact key _ rfl (fun e=>by cases e) hn
 have cw:w1.cell? ⟨(ρ1 4).blk,0,none⟩=some (.slice (some ⟨(ρc 0).blk,(ρc 0).off,none⟩) ws.length (ρc 0).cap):=by
  have h1:den ρ1 (.all 0) = .slice (some ⟨(ρc 0).blk,(ρc 0).off,none⟩) ws.length (ρc 0).cap:=by
   simp only [den,p0,a1',Bool.false_eq_true,if_false]
   rw [a0];rfl
  have h2:w1.heap[(ρ1 4).blk]? = some (.cells #[den ρ1 (.all 0)] tIs (0,0)):=ok4.2.2
  rw [h1] at h2
  simp [World.cell?,h2]
 have cs:w1.cell? ⟨(ρ1 5).blk,0,none⟩=some (.int .u64 size):=by
  have h2:w1.heap[(ρ1 5).blk]? = some (.cells #[.int .u64 size] tU (0,0)):=ok5.2.2
  simp [World.cell?,h2]
 have ca:w1.cell? ⟨(ρ1 6).blk,0,none⟩=some (.int .i64 all):=by
  have h2:w1.heap[(ρ1 6).blk]? = some (.cells #[.int .i64 all] tI (0,0)):=ok6.2.2
  simp [World.cell?,h2]
 have cws:∀ j,j<ws.length→w1.cell? ⟨(ρc 0).blk,(ρc 0).off+j,none⟩=some (.int .i64 (wfn ws j)):=by
  intro j hj
  have h1:=hR1.hr.ok 0 (.arg sI ws) rfl
  rw [p0] at h1
  rcases h1.2 with ⟨_,h⟩|⟨_,_,_,h4⟩
  · exact absurd h hne
  · refine h4 j _ ?_
    rw [flat_ints,List.getElem?_map,List.getElem?_eq_getElem hj]
    unfold wfn
    simp [List.getD,hj]
 have hfn:a1.eval (.tmp 37) = .func (.func 53) #[] #[.pointer (some ⟨(ρ1 4).blk,0,none⟩),.pointer (some ⟨(ρ1 5).blk,0,none⟩),.pointer (some ⟨(ρ1 6).blk,0,none⟩)]:=by
  have h1:=hR1.eval (.tmp 37) fnP rfl
  rw [h1]
  simp only [fnP,den,denL,ok4.2.1,ok5.2.1,ok6.2.1,Nat.add_zero]
 have fr1:Fr ρ1 a1.tmps:=⟨hR1.sz,(hR1.sl 8 (.ptr 1 0) rfl).2,(hR1.sl 9 (.ptr 2 0) rfl).2,(hR1.sl 10 (.ptr 3 0) rfl).2⟩
 have hlt0:(ρc 0).blk<w.heap.size:=a2
 have hall1:0<all∧all≤1125899906842624:=by rw [na];omega
 refine wpIn_rangeFunc_ownH rfl (by decide) (gf:=53) hfn trivial (enters_of Try.func53 (by kernel_rfl) rfl)
  (ShP.parts_stops 8 (by decide) (ρ1 4).blk (ρ1 5).blk (ρ1 6).blk w.heap.size (ρc 0).blk (ρc 0).off ws.length (ρc 0).cap (wfn ws) size all hsz hall1 (fun j=>by rw [na];exact q3 j) hlt0 (by omega) a3 w1 hz b4l b5l b6l cw cs ca cws)
  (fun h k=>h.trans k) (fun W lp o o' hl ho hc hwk=>⟨belowK_b hz W lp o o' hl ho hc hwk,World.putObj_heap_other (by omega),World.putObj_heap_other (by omega)⟩) (Below.refl _ _) (fun x=>rfl)
  (fun pre W=>Inv w ρ1 ws all size (stL ws all size left0 pre) (stO ws all size pre) (stQ ws all size pre) W∧w1.heap.size≤W.heap.size) (fun _ _ _=>False)
  (fun pre A B row hs hg hrow=>⟨Inv.own hs.1 hne hg (fun r e=>⟨Nat.le_trans hz (hrow r e).1,(hrow r e).2⟩),Nat.le_trans hs.2 hg.size⟩) (fun c pre A B row hs=>hs.elim) ?_
  (fun x a' W=>∃ bx,Bxd ρ1 w1.heap.size (part ws all size (x:Nat)) a' W bx) (fun x a' u A B row hs hg hrow=>by obtain ⟨bx,hb⟩:=hs;exact ⟨bx,hb.own hg (fun r e=>(hrow r e).2)⟩) ?_ ?_ ?_ (fun D c pre W hD hS h=>h.elim)
 · -- ahead of the first round
   refine ⟨⟨setRho ρ1 8 ⟨0,0,0,0,true,none⟩,⟨fun i o ho=>?_,fun i o ho how hn=>?_,fun i o ho hs hn=>?_,fun i j o o' ho ho' hwi hwj hn hn' hij=>?_⟩,hR1.ks,fun i hi=>setRho_other _ _ (by omega)⟩,Nat.le_refl _⟩
   · have hd:∀ (i:Nat) (o:AObj),i≠8→Ax.look (σ1 total ws all left0 size).hp i=some o→o.free 8 9=true→OK (setRho ρ1 8 ⟨0,0,0,0,true,none⟩) w1 (setRho ρ1 8 ⟨0,0,0,0,true,none⟩ i) o:=fun i o hi ho hf=>by
      rw [setRho_other _ _ hi]
      exact (hR1.hr.ok i o ho).keep (fun ty c e=>denL_free (lo:=8) (hi:=9) (fun k hk=>setRho_other _ _ (by omega)) c (free_cells hf ty c e)) (fun _=>rfl) (Nat.le_refl _)
     rcases look_hpR ho with ⟨rfl,rfl⟩|⟨rfl,rfl⟩|⟨rfl,rfl⟩|⟨rfl,rfl⟩|⟨rfl,rfl⟩|⟨rfl,rfl⟩|⟨rfl,rfl⟩|⟨rfl,rfl⟩|⟨rfl,rfl⟩
     · exact hd 0 _ (by decide) rfl rfl
     · exact hd 1 _ (by decide) rfl rfl
     · exact hd 2 _ (by decide) rfl rfl
     · have h3:=hd 3 (.cells tPs [.v (.slice none 0 0)]) (by decide) rfl rfl
       exact h3
     · exact hd 4 _ (by decide) rfl rfl
     · exact hd 5 _ (by decide) rfl rfl
     · exact hd 6 _ (by decide) rfl rfl
     · exact hd 7 _ (by decide) rfl rfl
     · rw [setRho_same];exact ⟨rfl,.inl ⟨rfl,rfl,rfl,rfl⟩⟩
   · have hi8:i≠8:=fun e=>by subst e;rw [setRho_same] at hn;cases hn
     rw [setRho_other _ _ hi8] at hn ⊢
     rcases look_hpR ho with ⟨rfl,rfl⟩|⟨rfl,rfl⟩|⟨rfl,rfl⟩|⟨rfl,rfl⟩|⟨rfl,rfl⟩|⟨rfl,rfl⟩|⟨rfl,rfl⟩|⟨rfl,rfl⟩|⟨rfl,rfl⟩
     · cases how
     · exact hR1.hr.inB 1 _ rfl rfl hn
     · exact hR1.hr.inB 2 _ rfl rfl hn
     · exact hR1.hr.inB 3 _ rfl rfl hn
     · exact hR1.hr.inB 4 _ rfl rfl hn
     · exact hR1.hr.inB 5 _ rfl rfl hn
     · exact hR1.hr.inB 6 _ rfl rfl hn
     · exact hR1.hr.inB 7 _ rfl rfl hn
     · exact absurd rfl hi8
   · rcases look_hpR ho with ⟨rfl,rfl⟩|⟨rfl,rfl⟩|⟨rfl,rfl⟩|⟨rfl,rfl⟩|⟨rfl,rfl⟩|⟨rfl,rfl⟩|⟨rfl,rfl⟩|⟨rfl,rfl⟩|⟨rfl,rfl⟩<;>first|(cases hs;done)|skip
     rw [setRho_other _ _ (by decide)] at hn ⊢
     exact hR1.hr.arg 0 _ rfl rfl hn
   · have key:∀ (i:Nat) (o:AObj),Ax.look (hpR ws all size (stL ws all size left0 []) (stO ws all size []) (stQ ws all size [])) i=some o→(setRho ρ1 8 ⟨0,0,0,0,true,none⟩ i).nil=false→setRho ρ1 8 ⟨0,0,0,0,true,none⟩ i=ρ1 i∧∃ o',Ax.look (σ1 total ws all left0 size).hp i=some o'∧(o.own=true→o'.own=true):=by
      intro i o ho hn
      have hi8:i≠8:=fun e=>by subst e;rw [setRho_same] at hn;cases hn
      refine ⟨setRho_other _ _ hi8,?_⟩
      rcases look_hpR ho with ⟨rfl,rfl⟩|⟨rfl,rfl⟩|⟨rfl,rfl⟩|⟨rfl,rfl⟩|⟨rfl,rfl⟩|⟨rfl,rfl⟩|⟨rfl,rfl⟩|⟨rfl,rfl⟩|⟨rfl,rfl⟩
      · exact ⟨_,rfl,fun h=>h⟩
      · exact ⟨_,rfl,fun h=>h⟩
      · exact ⟨_,rfl,fun h=>h⟩
      · exact ⟨_,rfl,fun h=>rfl⟩
      · exact ⟨_,rfl,fun h=>h⟩
      · exact ⟨_,rfl,fun h=>h⟩
      · exact ⟨_,rfl,fun h=>h⟩
      · exact ⟨_,rfl,fun h=>h⟩
      · exact absurd rfl hi8
     obtain ⟨e1,oi,hi1,hi2⟩:=key i o ho hn
     obtain ⟨e2,oj,hj1,hj2⟩:=key j o' ho' hn'
     rw [e1] at hn ⊢;rw [e2] at hn' ⊢
     exact hR1.hr.inj i j oi oj hi1 hj1 (hi2 hwi) (hj2 hwj) hn hn' hij
 · -- a round begins
   intro l pre x W K hI hK
   obtain ⟨⟨ρ,g1,g2,g3⟩,g4⟩:=hI
   have ht:((#[38]:Array Tmp).zip (ShP.encQ (ShP.partOf size all x (wfn ws x)))).foldl (fun t (p,v)=>t.setIfInBounds p v) a1.tmps=a1.tmps.setIfInBounds 38 (.agg #[.int .i64 (part ws all size x).1,.int .i64 (part ws all size x).2.1,.int .u64 (part ws all size x).2.2]):=by
    simp [ShP.encQ,part]
   have hget:∀ k,k≠38→(a1.tmps.setIfInBounds 38 (.agg #[.int .i64 (part ws all size x).1,.int .i64 (part ws all size x).2.1,.int .u64 (part ws all size x).2.2])).getD k undef=a1.tmps.getD k undef:=fun k hk=>by
    rw [Array.getD_eq_getD_getElem?,Array.getD_eq_getD_getElem?,Array.getElem?_setIfInBounds_ne (Ne.symm hk)]
   have hgoal:sAsg.wpIn (Fence.wide.inRound l) (9 - 1 - 1) Try.prog (Exit.then K (fun _ _ _=>False)) { tmps:=a1.tmps.setIfInBounds 38 (.agg #[.int .i64 (part ws all size x).1,.int .i64 (part ws all size x).2.1,.int .u64 (part ws all size x).2.2]),defers:=[] } W:=by
    refine asg_step (w:=w) (ρ1:=ρ1) (n1:=w1.heap.size) (x:=part ws all size x) l _ (Nat.le_trans hz g4) g4 g1 g2 g3 ⟨?_,?_,?_,?_⟩ ?_ rfl (fun a' W' bx hk hi hb=>?_)
    · show Array.size (a1.tmps.setIfInBounds 38 _)=88
      rw [Array.size_setIfInBounds];exact fr1.sz
    · exact (hget 8 (by decide)).trans fr1.t8
    · exact (hget 9 (by decide)).trans fr1.t9
    · exact (hget 10 (by decide)).trans fr1.t10
    · show Array.getD (a1.tmps.setIfInBounds 38 _) 38 undef=_
      rw [Array.getD_eq_getD_getElem?,Array.getElem?_setIfInBounds_self_of_lt (by rw [fr1.sz];decide)]
      rfl
    · have hkw:Keeps (BS w) W W':=hk.widen (Bn.sub g1 (fun b hb=>Nat.le_trans (Nat.le_trans hz g4) hb))
      obtain ⟨ρ'',k1,k2,k3⟩:=hi.ex
      have f5:=g1.ok 5 _ (show Ax.look (hpR _ _ _ _ _ _) 5=some (.cells tU [uv size]) from rfl)
      have f6:=g1.ok 6 _ (show Ax.look (hpR _ _ _ _ _ _) 6=some (.cells tI [vi all]) from rfl)
      have e5:=k1.ok 5 _ (show Ax.look (hpR _ _ _ _ _ _) 5=some (.cells tU [uv size]) from rfl)
      have e6:=k1.ok 6 _ (show Ax.look (hpR _ _ _ _ _ _) 6=some (.cells tI [vi all]) from rfl)
      rw [g3 5 (by decide)] at f5;rw [g3 6 (by decide)] at f6;rw [k3 5 (by decide)] at e5;rw [k3 6 (by decide)] at e6
      exact hK a' W' ⟨hk.size,fun k o _ ho hc=>keeps_from ⟨_,g1⟩ (fun i o ho=>by
       rcases look_hpR ho with ⟨rfl,rfl⟩|⟨rfl,rfl⟩|⟨rfl,rfl⟩|⟨rfl,rfl⟩|⟨rfl,rfl⟩|⟨rfl,rfl⟩|⟨rfl,rfl⟩|⟨rfl,rfl⟩|⟨rfl,rfl⟩<;>trivial) hk k o ho hc⟩
       ⟨⟨hkw.os,hkw.tape,hkw.output,hkw.size,fun k hk'=>hkw.block k (Nat.not_le.2 hk')⟩,e5.2.2.trans f5.2.2.symm,e6.2.2.trans f6.2.2.symm⟩ ⟨hi,Nat.le_trans g4 hk.size⟩ ⟨bx,hb⟩
   rw [← ht] at hgoal
   exact hgoal
 · -- its body
   rintro l pre x a' W hl hloop ⟨⟨ρ,g1,g2,g3⟩,g4⟩ ⟨bx,hb⟩ hlt
   have hol:=stO_len ws all size pre
   refine body_step (w:=w) (ρ1:=ρ1) (n1:=w1.heap.size) l _ (Nat.le_trans hz g4) hz g1 g2 g3 hlow hb (by show 0≤((x:Nat):Int);omega) (by show ((x:Nat):Int).toNat<_;rw [hol,Int.toNat_natCast];exact x.2) (by rw [stQ_len];omega) (fun a'' W' hnc hk hi=>?_)
   obtain ⟨ρ'',k1,k2,k3⟩:=hi.ex
   have f5:=g1.ok 5 _ (show Ax.look (hpR _ _ _ _ _ _) 5=some (.cells tU [uv size]) from rfl)
   have f6:=g1.ok 6 _ (show Ax.look (hpR _ _ _ _ _ _) 6=some (.cells tI [vi all]) from rfl)
   have e5:=k1.ok 5 _ (show Ax.look (hpR _ _ _ _ _ _) 5=some (.cells tU [uv size]) from rfl)
   have e6:=k1.ok 6 _ (show Ax.look (hpR _ _ _ _ _ _) 6=some (.cells tI [vi all]) from rfl)
   rw [g3 5 (by decide)] at f5;rw [g3 6 (by decide)] at f6;rw [k3 5 (by decide)] at e5;rw [k3 6 (by decide)] at e6
   refine ⟨⟨hk.size,fun k o _ ho hc=>hnc k o ho hc⟩,⟨⟨hk.os,hk.tape,hk.output,hk.size,fun k hk'=>hk.block k (Nat.not_le.2 hk')⟩,e5.2.2.trans f5.2.2.symm,e6.2.2.trans f6.2.2.symm⟩,?_,Nat.le_trans g4 hk.size⟩
   rw [stL_snoc,stO_snoc,stQ_snoc]
   exact hi
 · -- behind it
   rintro D xs W hD rfl ⟨⟨ρ,g1,g2,g3⟩,g4⟩ hK
   show sRest.wp _ _ _ W
   rw [show a1.defers=[] from hR1.df]
   obtain ⟨mk,hmk⟩:∃ mk:Deferred,mk = { target:=.collected D,args:=#[] }:=⟨_,rfl⟩
   rw [← hmk]
   have hnm:∀ i o,Ax.look (hpR ws all size (stL ws all size left0 (ShP.upF ws.length ws.length)) (stO ws all size (ShP.upF ws.length ws.length)) (stQ ws all size (ShP.upF ws.length ws.length))) i=some o→match o with | .mapo .. | .raw _=>False|_=>True:=fun i o ho=>by
    rcases look_hpR ho with ⟨rfl,rfl⟩|⟨rfl,rfl⟩|⟨rfl,rfl⟩|⟨rfl,rfl⟩|⟨rfl,rfl⟩|⟨rfl,rfl⟩|⟨rfl,rfl⟩|⟨rfl,rfl⟩|⟨rfl,rfl⟩<;>trivial
   obtain ⟨B2,hB2⟩:∃ B2,B2=Bn ρ (hpR ws all size (stL ws all size left0 (ShP.upF ws.length ws.length)) (stO ws all size (ShP.upF ws.length ws.length)) (stQ ws all size (ShP.upF ws.length ws.length))) W:=⟨_,rfl⟩
   have hE2:Sound (eff Try.prog CSp) Try.prog B2 ⟨W,ρ,1,[mk]⟩ fS.ntmps:=eff_sound (CSp_ok _)
   have hR2:R B2 ⟨W,ρ,1,[mk]⟩ fS.ntmps (σ2 total ws all size (stL ws all size left0 (ShP.upF ws.length ws.length)) (stO ws all size (ShP.upF ws.length ws.length)) (stQ ws all size (ShP.upF ws.length ws.length))) ρ { tmps:=a1.tmps,defers:=[mk] } W:=by
    refine ⟨hR1.sz,rfl,fun t s hs=>?_,by rw [hB2];exact g1.narrow,fun b hb=>by rw [hB2];exact .inl hb,Keeps.refl _ _,fun i hi=>rfl⟩
    rcases slots_2 hs with ⟨rfl,rfl⟩|⟨rfl,rfl⟩|⟨rfl,rfl⟩|⟨rfl,rfl⟩
    · exact ⟨by decide +kernel,(hR1.sl 0 (vi total) rfl).2⟩
    · exact ⟨by decide +kernel,fr1.t8.trans (den_ptr (g3 1 (by decide)).symm)⟩
    · exact ⟨by decide +kernel,fr1.t9.trans (den_ptr (g3 2 (by decide)).symm)⟩
    · exact ⟨by decide +kernel,fr1.t10.trans (den_ptr (g3 3 (by decide)).symm)⟩
   have hwf2:Wf 1 (σ2 total ws all size (stL ws all size left0 (ShP.upF ws.length ws.length)) (stO ws all size (ShP.upF ws.length ws.length)) (stQ ws all size (ShP.upF ws.length ws.length))):=wf_hpR 1 17 (by decide) (by decide) (fun t s hs=>by
    rcases slots_2 hs with ⟨rfl,rfl⟩|⟨rfl,rfl⟩|⟨rfl,rfl⟩|⟨rfl,rfl⟩<;>rfl)
   refine wp_mono (ev_sound mixed hE2 (hcn _ _ (Nat.le_refl _)) sRest _ _ _ hrest ρ _ W hwf2 hR2) ?_
   rintro e' a' w' ⟨e,σ',ρ',rfl,hk,hw',hR'⟩
   obtain ⟨lr,hlr,hkx⟩:=KS_fin hk
   have hDl:w'.heap[D]? = some (.deferred (some [])):=keeps_from ⟨_,g1⟩ hnm (by have:=hR'.ks;rw [hB2] at this;exact this) D _ hK rfl
   have hup:∀ b,W.heap.size≤b→BS w b:=fun b hb=>Nat.le_trans (Nat.le_trans hz g4) hb
   obtain ⟨w'',hw''⟩:∃ w'',w''=w'.putObj D (.deferred none):=⟨_,rfl⟩
   have hgr:w'.grownBy w'' (some D):=by rw [hw''];exact grownBy_putObj' w' D _
   have hDB:¬ B2 D:=by
    rw [hB2]
    rintro (hb|⟨i,o,ho,how,hn,hb⟩)
    · have:=(Array.getElem?_eq_some_iff.1 hK).1;omega
    · have h1:=g1.ok i o ho
      have h2:=hnm i o ho
      cases o with
      | cells ty c=>have h3:=h1.2.2;rw [hb,hK] at h3;cases h3
      | row ty s l =>
       rcases h1.2 with ⟨h3,_⟩|⟨_,_,_,arr,h3,_⟩
       · rw [h3] at hn;cases hn
       · rw [hb,hK] at h3;cases h3
      | mapo ks vs l=>exact h2
      | raw o=>exact h2
      | _=>cases how
   have hks:Keeps (BS w) w w'':=by
    refine (g2.trans ((show Keeps B2 W w' from hR'.ks).widen (by rw [hB2];exact Bn.sub g1 hup))).trans ⟨hgr.os,hgr.tape,hgr.output,hgr.size,fun k hk=>?_⟩
    have hkl:k<w.heap.size:=Nat.lt_of_not_le hk
    have hs1:=g2.size
    have hs2:=(show Keeps B2 W w' from hR'.ks).size
    exact hgr.block k (by omega) (fun e=>by cases e;omega)
   obtain ⟨ρ2,hv,hf,hpn⟩:=KG_R (w0:=⟨W,ρ,1,[mk]⟩) (Nat.le_refl _) hkx hR'.hr (fun b hb=>by rw [hB2];exact .inl hb) hR'.ks hR'.pn
   have hgm:∀ i o,Ax.look (endH ws outs) i=some o→(i=0∧o = .arg sI ws)∨(i=1∧o = .row tI sI outs):=by
    intro i o h
    have h1:=look_in h
    simpa only [endH,List.mem_cons,Prod.mk.injEq,List.not_mem_nil,or_false] using h1
   have r0:ρ2 0=ρ 0:=hpn 0 (show 0<1 by decide)
   have hf2:HR (BS w) ρ2 (endH ws outs) w':=by
    refine ⟨hf.ok,fun i o ho how hn=>?_,fun i o ho hs hn=>?_,hf.inj⟩
    · have:=hf.inB i o ho how hn
      rw [hB2] at this
      exact Bn.sub g1 hup _ this
    · rcases hgm i o ho with ⟨rfl,rfl⟩|⟨rfl,rfl⟩
      · rw [r0] at hn ⊢;exact g1.arg 0 _ rfl rfl hn
      · cases hs
   have hcell:∀ i o,Ax.look (endH ws outs) i=some o→match o with | .mapo .. | .raw _=>False | .arg s l=>(ρ2 i).nil=false→∃ cs t fz,w'.heap[(ρ2 i).blk]? = some (.cells cs t fz)|_=>True:=by
    intro i o ho
    rcases hgm i o ho with ⟨rfl,rfl⟩|⟨rfl,rfl⟩
    · show (ρ2 0).nil=false→_
      intro hn
      rcases (hf.ok 0 _ ho).2 with ⟨h,_⟩|⟨_,_,_,h⟩
      · rw [h] at hn;cases hn
      · cases hws:ws with
        | nil=>exact absurd hws hne
        | cons x l=>rw [hws] at h;exact cell_block (h 0 (.int .i64 x) rfl)
    · exact True.intro
   have hfin:HR (BS w) ρ2 (endH ws outs) w'':=hf2.own hgr hcell (fun r e=>by cases e;exact ⟨_,hDl,rfl⟩)
   have hres:∃ v,(results fS a'.tmps).run Try.prog w'' = .ok v w''∧∃ ρ' s h',Ending.returned v = .returned (den ρ' s)∧KX qS2 s h'=some (outs,(0:Int),())∧HR (BS w) ρ' h' w''∧Keeps (BS w) w w'':=by
    have h1:=results_run hR' hlr
    rw [res_two] at h1
    refine ⟨den ρ2 (.tup [.all 1,vi 0]),?_,ρ2,.tup [.all 1,vi 0],endH ws outs,rfl,kx_end ws outs,hfin,hks⟩
    have h2:=(Result.ok.inj h1).1
    rw [res_two,← hv,← h2]
   have hlv:LeavesInM Fence.wide 9 Try.prog fS a'.tmps (fun e w'=>∃ ρ' s h',e = .returned (den ρ' s)∧KX qS2 s h'=some (outs,(0:Int),())∧HR (BS w) ρ' h' w'∧Keeps (BS w) w w') a'.defers .returning w':=by
    rw [show a'.defers=[mk] from hR'.df]
    refine ⟨by simp,.inl ⟨D,w'',by rw [hmk],by rw [hw''];exact run_takeDeferred hDl,hres⟩⟩
   cases e with
   | normal=>exact hlv
   | exit id=>cases hk
   | ret=>exact hlv
end Go.Proofs.Ytlfkfajodnkkhaa.Sh
namespace Go.Proofs.Ytlfkfajodnkkhaa.Sh
open Go Go.RowKit Go.Proofs.YtlfkfajodnkkhaaW.PrintWords Go.Proofs.Ytlfkfajodnkkhaa.Ax
set_option linter.unusedVariables false
set_option linter.unusedSimpArgs false
def negW (x:Int):Int:=IT.wrap (0 - x)
def bump (o:List Int) (p:HP):List Int:=o.set p.1.toNat (IT.wrap (rI o p.1+1))
theorem idxI {β:Type} (l:List Int) (i:Int) (h0:0≤i) (h:i.toNat<l.length) (x:Option β):idxP l i x=x:=by
 unfold idxP
 rw [decide_eq_true h0,decide_eq_true (by omega),decide_eq_true h];rfl
theorem rI_at (l:List Int) (i:Nat) (h:i<l.length):rI l i=l[i]:=by unfold rI;simp [List.getD,h]
theorem L20_run (F:Nat) (ws:List Int):∀ (r i kk:Nat) (outs:List Int),i+r=outs.length→r<kk→outs.length≤1000→L20 F kk ws outs.length outs i=endS ws (outs.take i ++ (outs.drop i).map negW):=by
 intro r
 induction r with
 | zero =>
  intro i kk outs hi hk hl
  obtain ⟨k,rfl⟩:∃ k,kk=k+1:=⟨kk - 1,by omega⟩
  rw [L20_eq,decide_eq_false (by omega),sel_false,List.take_of_length_le (by omega),List.drop_eq_nil_of_le (by omega)]
  simp
 | succ r ih =>
  intro i kk outs hi hk hl
  obtain ⟨k,rfl⟩:∃ k,kk=k+1:=⟨kk - 1,by omega⟩
  have hlt:i<outs.length:=by omega
  have e3:IT.wrap ((i:Int)+1)=((i+1:Nat):Int):=by rw [wr (by omega) (by omega)];omega
  rw [L20_eq,decide_eq_true (by omega),sel_true,idxI outs i (by omega) (by omega),idxI outs i (by omega) (by omega),e3,Int.toNat_natCast,rI_at outs i hlt]
  have:=ih (i+1) k (outs.set i (negW outs[i])) (by simp;omega) (by omega) (by simp;omega)
  rw [List.length_set] at this
  refine this.trans ?_
  congr 1
  rw [List.drop_set_of_lt (by omega),List.take_succ_eq_append_getElem (by simpa using hlt),List.take_set_of_le (by omega),List.getElem_set_self,List.drop_eq_getElem_cons hlt]
  simp only [List.map_cons,List.append_assoc,List.cons_append,List.nil_append]
theorem L14_run (F:Nat) (hF:1001≤F) (total:Int) (ws:List Int) (m:Nat) (qs:List HP) (hm:m≤qs.length) (hm2:m≤1000):∀ (r i kk:Nat) (outs:List Int),i+r=m→r<kk→outs.length≤1000→(∀ p∈qs,0≤p.1∧p.1.toNat<outs.length)→
 L14 F kk total ws m qs outs i=endS ws (bif decide (total<0) then (((qs.take m).drop i).foldl bump outs).map negW else ((qs.take m).drop i).foldl bump outs):=by
 intro r
 induction r with
 | zero =>
  intro i kk outs hi hk hl hq
  obtain ⟨k,rfl⟩:∃ k,kk=k+1:=⟨kk - 1,by omega⟩
  rw [L14_eq,decide_eq_false (by omega),sel_false,List.drop_eq_nil_of_le (by rw [List.length_take];omega),List.foldl_nil]
  cases decide (total<0) with
  | false=>rfl
  | true =>
   rw [sel_true,cond_true]
   have:=L20_run F ws outs.length 0 F outs (by omega) (by omega) hl
   simpa using this
 | succ r ih =>
  intro i kk outs hi hk hl hq
  obtain ⟨k,rfl⟩:∃ k,kk=k+1:=⟨kk - 1,by omega⟩
  have hlt:i<qs.length:=by omega
  have e3:IT.wrap ((i:Int)+1)=((i+1:Nat):Int):=by rw [wr (by omega) (by omega)];omega
  have hz:rAz qs i=qs[i]:=by unfold rAz;simp [List.getD,hlt]
  obtain ⟨p0,p1⟩:=hq qs[i] (List.getElem_mem hlt)
  rw [L14_eq,decide_eq_true (by omega),sel_true]
  have hid:∀ x:SO,idxS m qs i x=x:=by
   intro x
   unfold idxS
   rw [decide_eq_true (by omega),decide_eq_true (by omega),decide_eq_true (by omega)];rfl
  rw [hid,hz,idxI outs _ p0 p1,idxI outs _ p0 p1,e3]
  have:=ih (i+1) k (bump outs qs[i]) (by omega) (by omega) (by unfold bump;simpa using hl) (fun p hp=>by unfold bump;simpa using hq p hp)
  refine this.trans ?_
  have hd:(qs.take m).drop i=qs[i] :: (qs.take m).drop (i+1):=by
   rw [List.drop_eq_getElem_cons (by rw [List.length_take];omega),List.getElem_take]
  rw [hd,List.foldl_cons]
def wh (all size x:Int):Int:=size * x / all
def rs (all size x:Int):Int:=size * x % all
theorem upF_all (n:Nat):ShP.upF n n=List.finRange n:=by unfold ShP.upF;exact List.take_of_length_le (by simp)
theorem stO_upF (ws:List Int) (all size:Int):∀ k,k≤ws.length→stO ws all size (ShP.upF ws.length k)=(ws.take k).map (wh all size) ++ List.replicate (ws.length - k) 0
 | 0,_=>by simp [ShP.upF,stO,zr]
 | k+1,hk=>by
  have hlt:k<ws.length:=by omega
  rw [ShP.upF_succ hlt,stO_snoc,stO_upF ws all size k (by omega),List.set_append_right _ _ (by simp;omega)]
  have e1:(List.map (wh all size) (ws.take k)).length=k:=by simp;omega
  rw [e1,Nat.sub_self,show ws.length - k=(ws.length - (k+1))+1 by omega,List.replicate_succ,List.set_cons_zero,List.take_succ_eq_append_getElem hlt]
  have e2:(part ws all size k).2.1=wh all size ws[k]:=by
   show size * wfn ws k / all=_
   unfold wfn wh
   simp [List.getD,hlt]
  simp only [e2,List.map_append,List.map_cons,List.map_nil,List.append_assoc,List.cons_append,List.nil_append]
theorem sum_take_le:∀ (l:List Int) (k:Nat),(∀ x∈l,0≤x)→0≤(l.take k).sum∧(l.take k).sum≤l.sum
 | [],k,_=>by simp
 | x :: l,0,h=>by
  have h1:=sum_take_le l l.length (fun y hy=>h y (by simp [hy]))
  rw [List.take_of_length_le (Nat.le_refl _)] at h1
  have:=h x (by simp)
  simp only [List.take_zero,List.sum_nil,List.sum_cons];omega
 | x :: l,k+1,h=>by
  have h1:=sum_take_le l k (fun y hy=>h y (by simp [hy]))
  have:=h x (by simp)
  simp only [List.take_succ_cons,List.sum_cons];omega
theorem wh_sum (all size:Int) (ha:0<all):∀ ws:List Int,all * (ws.map (wh all size)).sum+(ws.map (rs all size)).sum=size * ws.sum
 | []=>by simp
 | x :: l=>by
  have h1:=wh_sum all size ha l
  have h2:all * (size * x / all)+size * x % all=size * x:=Int.mul_ediv_add_emod (size * x) all
  simp only [List.map_cons,List.sum_cons,Int.mul_add]
  unfold wh rs at *
  omega
theorem rs_sum (all size:Int) (ha:0<all):∀ ws:List Int,0≤(ws.map (rs all size)).sum∧(ws.map (rs all size)).sum≤(ws.length:Int) * (all - 1)
 | []=>by simp
 | x :: l=>by
  have h1:=rs_sum all size ha l
  have h2:=Int.emod_nonneg (size * x) (show all≠0 by omega)
  have h3:=Int.emod_lt_of_pos (size * x) ha
  simp only [List.map_cons,List.sum_cons,List.length_cons]
  have:((l.length+1:Nat):Int) * (all - 1)=(l.length:Int) * (all - 1)+(all - 1):=by
   rw [Int.natCast_succ,Int.add_mul,Int.one_mul]
  unfold rs at *
  omega
theorem stL_upF (ws:List Int) (all size:Int) (hs:0≤size∧size≤4611686018427387904) (hw:∀ x∈ws.map (wh all size),0≤x) (hle:(ws.map (wh all size)).sum≤size):∀ k,k≤ws.length→stL ws all size size (ShP.upF ws.length k)=size - ((ws.map (wh all size)).take k).sum
 | 0,_=>by simp [ShP.upF,stL]
 | k+1,hk=>by
  have hlt:k<ws.length:=by omega
  have hlt':k<(ws.map (wh all size)).length:=by simpa using hlt
  have h1:=sum_take_le (ws.map (wh all size)) (k+1) hw
  have e2:(part ws all size k).2.1=(ws.map (wh all size))[k]:=by
   rw [List.getElem_map]
   show size * wfn ws k / all=_
   unfold wfn wh
   simp [List.getD,hlt]
  have e3:((ws.map (wh all size)).take (k+1)).sum=((ws.map (wh all size)).take k).sum+(ws.map (wh all size))[k]:=by
   rw [List.take_succ_eq_append_getElem hlt',List.sum_append];simp
  rw [ShP.upF_succ hlt,stL_snoc,stL_upF ws all size hs hw hle k (by omega),e2]
  have:IT.wrap (size - ((ws.map (wh all size)).take k).sum - (ws.map (wh all size))[k])=size - ((ws.map (wh all size)).take k).sum - (ws.map (wh all size))[k]:=by
   show IntKind.i64.wrap _=_
   rw [IntKind.wrap_i64];omega
  rw [this,e3];omega
def psV (ws:List Int) (all size:Int):List HP:=(List.range ws.length).map (part ws all size)
theorem stQ_all (ws:List Int) (all size:Int):stQ ws all size (ShP.upF ws.length ws.length)=psV ws all size:=by
 rw [upF_all]
 unfold stQ psV
 apply List.ext_getElem
 · simp
 · intro i h1 h2
   simp
theorem psV_asc (ws:List Int) (all size:Int):Asc (psV ws all size):=by
 unfold psV Asc
 rw [List.pairwise_map]
 refine List.pairwise_lt_range.imp (fun {a b} h=>?_)
 show (a:Int)<b
 omega
def leftV (ws:List Int) (all size:Int):Int:=size - (ws.map (wh all size)).sum
def outV (ws:List Int) (all size:Int):List Int:=((sortP (psV ws all size)).take (leftV ws all size).toNat).foldl bump (ws.map (wh all size))
def splitV (total:Int) (ws:List Int):List Int:=bif decide (total<0) then (outV ws ws.sum (sizedV total)).map negW else outV ws ws.sum (sizedV total)
theorem nums {total:Int} {ws:List Int} (hmay:Ax.mayB total=true) (hok:(sumV ws).2=true) :
 0<ws.sum∧(sumV ws).1=ws.sum∧(∀ x∈ws.map (wh ws.sum (sizedV total)),0≤x)∧0≤leftV ws ws.sum (sizedV total)∧leftV ws ws.sum (sizedV total) * ws.sum=(ws.map (rs ws.sum (sizedV total))).sum∧leftV ws ws.sum (sizedV total)<ws.length:=by
 obtain ⟨n1,n2,ng,na,np⟩:=sum_good hok
 have hs:=size_in hmay
 have h1:=wh_sum ws.sum (sizedV total) np ws
 have h2:=rs_sum ws.sum (sizedV total) np ws
 have hge:∀ x∈ws,0≤x:=by
  intro x hx
  unfold goodW at ng
  rw [List.all_eq_true] at ng
  have:=ng x hx
  simp only [Bool.and_eq_true,decide_eq_true_eq] at this
  exact this.1
 have h3:leftV ws ws.sum (sizedV total) * ws.sum=(ws.map (rs ws.sum (sizedV total))).sum:=by
  unfold leftV
  rw [Int.sub_mul,Int.mul_comm (List.sum _) ws.sum]
  omega
 refine ⟨np,na,fun x hx=>?_,?_,h3,?_⟩
 · obtain ⟨y,hy,rfl⟩:=List.mem_map.1 hx
   exact Int.ediv_nonneg (Int.mul_nonneg hs.1 (hge y hy)) (by omega)
 · refine Int.le_of_lt_add_one ?_
   have : -1 * ws.sum<leftV ws ws.sum (sizedV total) * ws.sum:=by omega
   have:=Int.lt_of_mul_lt_mul_right this (by omega)
   omega
 · have h4:(ws.length:Int) * (ws.sum - 1)<(ws.length:Int) * ws.sum:=Int.mul_lt_mul_of_pos_left (by omega) (by omega)
   have:leftV ws ws.sum (sizedV total) * ws.sum<(ws.length:Int) * ws.sum:=by omega
   exact Int.lt_of_mul_lt_mul_right this (by omega)
theorem split_rest (total:Int) (ws:List Int) (hmay:Ax.mayB total=true) (hok:(sumV ws).2=true) (F:Nat) (hF:F=2000) :
 evS TSp F sRest (σ2 total ws (sumV ws).1 (sizedV total) (stL ws (sumV ws).1 (sizedV total) (IT.wrap (sizedV total)) (ShP.upF ws.length ws.length)) (stO ws (sumV ws).1 (sizedV total) (ShP.upF ws.length ws.length)) (stQ ws (sumV ws).1 (sizedV total) (ShP.upF ws.length ws.length))) (finK Try.prog fS (KG (gcSt [0] 1) 1))=endS ws (splitV total ws):=by
 obtain ⟨n1,n2,ng,na,np⟩:=sum_good hok
 obtain ⟨_,_,m1,m2,m3,m4⟩:=nums hmay hok
 have hs:=size_in hmay
 have e0:IT.wrap (sizedV total)=sizedV total:=by
  show IntKind.i64.wrap _=_
  rw [IntKind.wrap_i64];omega
 have hlv:leftV ws ws.sum (sizedV total)=sizedV total - (ws.map (wh ws.sum (sizedV total))).sum:=rfl
 have eL:stL ws ws.sum (sizedV total) (sizedV total) (ShP.upF ws.length ws.length)=leftV ws ws.sum (sizedV total):=by
  rw [stL_upF ws ws.sum (sizedV total) hs m1 (by omega) ws.length (Nat.le_refl _),List.take_of_length_le (by simp)]
  rfl
 have eO:stO ws ws.sum (sizedV total) (ShP.upF ws.length ws.length)=ws.map (wh ws.sum (sizedV total)):=by
  rw [stO_upF ws ws.sum (sizedV total) ws.length (Nat.le_refl _),List.take_of_length_le (Nat.le_refl _),Nat.sub_self]
  simp
 rw [na,e0,eL,eO,stQ_all,rest_eq]
 have hpl:(psV ws ws.sum (sizedV total)).length=ws.length:=by simp [psV]
 have hsl:(sortP (psV ws ws.sum (sizedV total))).length=ws.length:=(sortP_len _).trans hpl
 rw [cdec_true.2 ⟨by omega,psV_asc ws _ _⟩,sel_true,decide_eq_true m2,sel_true,decide_eq_true (by omega),sel_true,decide_eq_true (by omega),sel_true]
 have:=L14_run F (by omega) total ws (leftV ws ws.sum (sizedV total)).toNat (sortP (psV ws ws.sum (sizedV total))) (by omega) (by omega) (leftV ws ws.sum (sizedV total)).toNat 0 F (ws.map (wh ws.sum (sizedV total))) (by omega) (by omega) (by simp;omega) (fun p hp=>by
  obtain ⟨j,hj,rfl⟩:=List.mem_map.1 ((sortP_perm _).mem_iff.1 hp)
  have hj:=List.mem_range.1 hj
  refine ⟨by show 0≤(j:Int);omega,?_⟩
  show (j:Int).toNat<_
  rw [Int.toNat_natCast,List.length_map];exact hj)
 refine this.trans ?_
 rw [List.drop_zero]
 rfl
theorem split_no (total:Int) (ws:List Int) (hb:(Ax.mayB total && (sumV ws).2)=false):evX Try.prog CSp (cnRow 1 TSp) 9 fS [qInt,qInts] qS2 (total,ws,())=some (([]:List Int),(2:Int),()):=by
 refine (no_eq 9 total ws).trans ?_
 cases h1:Ax.mayB total with
 | false=>rfl
 | true =>
  rw [h1,Bool.true_and] at hb
  rw [hb];rfl
def okS (total:Int) (ws:List Int):Bool:=Ax.mayB total && (sumV ws).2
def spL (total:Int) (ws:List Int):List Int:=bif okS total ws then splitV total ws else []
def spE (total:Int) (ws:List Int):Int:=bif okS total ws then 0 else 2
def spV (x:PT [qInt,qInts]):Option (PT qS2):=some (spL x.1 x.2.1,spE x.1 x.2.1,())
theorem sp_yes {total:Int} {ws:List Int} (h:okS total ws=true):spV (total,ws,())=some (splitV total ws,(0:Int),()):=by
 show some (spL total ws,spE total ws,())=_
 unfold spL spE;rw [h];rfl
theorem sp_no {total:Int} {ws:List Int} (h:okS total ws=false):spV (total,ws,())=some (([]:List Int),(2:Int),()):=by
 show some (spL total ws,spE total ws,())=_
 unfold spL spE;rw [h];rfl
noncomputable def cSplit:Con:=conX [qInt,qInts] qS2 spV
theorem cSplit_ok (B):ConOk Try.prog B 16 cSplit:=by
 refine conX_okW Try.func16 (by kernel_rfl) (by kernel_rfl) [qInt,qInts] qS2 (by decide) spV (fun x y hy ρ0 w hr=>?_) B
 obtain ⟨total,ws,u⟩:=x
 cases hb:okS total ws with
 | true =>
  have e:=Option.some.inj ((sp_yes hb).symm.trans hy)
  rw [← e]
  have hb2:(Ax.mayB total && (sumV ws).2)=true:=hb
  rw [Bool.and_eq_true] at hb2
  exact split_call total ws hb2.1 hb2.2 (splitV total ws) 2000 (split_rest total ws hb2.1 hb2.2 2000 rfl) ρ0 w hr
 | false =>
  have e:=Option.some.inj ((sp_no hb).symm.trans hy)
  rw [← e]
  refine (evFn_sound mixed Try.func16 (CSp_ok _) (split_no total ws hb) ρ0 w (Base.of w) rfl (fun i hi=>absurd hi (Nat.not_lt_zero _)) (Nat.zero_le _) (cnRow_ok (pin:=1) (T:=TSp)) hr (fun i o ho=>?_) rfl (fun b hb=>hb)).mono ?_
  · obtain ⟨rfl,rfl⟩:=look_one ho
    exact ⟨by show 0<1;decide,rfl⟩
  · rintro e w' ⟨ρ',s,h',h1,h2,h3,h4,_⟩
    exact ⟨ρ',s,h',h1,h2,h3,h4⟩
end Go.Proofs.Ytlfkfajodnkkhaa.Sh
