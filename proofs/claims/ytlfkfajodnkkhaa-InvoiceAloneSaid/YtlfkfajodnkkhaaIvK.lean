/- Invoice: each: the sums. -/
import Derived.Test.YtlfkfajodnkkhaaX0
import Derived.Test.YtlfkfajodnkkhaaAx8
import Derived.Test.YtlfkfajodnkkhaaMoney
import Derived.Test.YtlfkfajodnkkhaaX11
import Derived.Test.YtlfkfajodnkkhaaX2
import Derived.Test.YtlfkfajodnkkhaaX3
import Derived.Test.YtlfkfajodnkkhaaX4
import Derived.Test.YtlfkfajodnkkhaaRef01A
import Derived.Test.YtlfkfajodnkkhaaAx14
import Derived.Test.YtlfkfajodnkkhaaAx4
import Derived.Test.YtlfkfajodnkkhaaShI
import Derived.Test.YtlfkfajodnkkhaaShS
namespace Go.Proofs.Ytlfkfajodnkkhaa.Print
open Go.RowKit Go.Proofs.YtlfkfajodnkkhaaW.PrintWords Go.Proofs.YtlfkfajodnkkhaaW.PrintLast Go.Proofs.YtlfkfajodnkkhaaW.PrintMore
set_option linter.unusedVariables false
set_option linter.unusedSimpArgs false
theorem of_ev_may (a:Int) (h:mayB a=true):∃ n l,Ev (fun k=>octroiref01_Of.f k a) (n,l)∧IsNum n l a∧l.length≤3:=by
 rw [mayB_iff] at h
 exact of_ev a (by omega) (by omega)
theorem int_loop (n:Bool) (l:List Int) (h:Dig l) (hv:dval l≤4611686018427387904) (hl:l.length≤1000000010):∀ (i:Nat) (x:Int),i≤l.length→x=dval (l.drop i)→
 Ev (fun k=>octroiref01_Int.l0 k x ((i:Int) - 1) n l) (if n=true then -dval l else dval l,true):=by
 intro i
 induction i with
 | zero =>
  intro x hi hx
  rw [List.drop_zero] at hx
  subst hx
  have h0:=dval_0 h
  refine Ev.step (f:=fun _=>some (if n=true then -dval l else dval l,true)) (fun k=>?_) (Ev.now _)
  simp only [octroiref01_Int.l0]
  rw [if_neg (by omega)]
  cases n with
  | true=>rw [if_pos rfl,w64 (by omega) (by omega)];rfl
  | false=>rw [if_neg (by simp)];rfl
 | succ i ih =>
  intro x hi hx
  have e:((i+1:Nat):Int) - 1=(i:Int):=by omega
  have hr:=h.rd i (by omega)
  have hd:=drop_rd l i (by omega)
  have hle:dval (l.drop i)≤dval l:=by
   have h1:=dval_append (l.take i) (l.drop i)
   rw [List.take_append_drop] at h1
   have h2:=dval_0 (h.take i)
   have h3:=dval_0 (h.drop i)
   have h4:1 * dval (l.drop i)≤2147483648 ^ (l.take i).length * dval (l.drop i):=Int.mul_le_mul_of_nonneg_right (by have:=pow_pos' (l.take i).length;omega) h3
   omega
  have h0:=dval_0 (h.drop (i+1))
  rw [hd] at hle
  simp only [dval] at hle
  rw [← hx] at hle h0
  have:=ih (x * 2147483648+rd l i) (by omega) (by rw [hd];simp only [dval];rw [← hx];omega)
  refine Ev.step (fun k=>?_) this
  simp only [octroiref01_Int.l0]
  rw [e,if_pos (by omega),if_pos (by omega),if_pos (by omega),w64 (x:=x * 2147483648) (by omega) (by omega),w64 (x:=x * 2147483648+rd l i) (by omega) (by omega),w64 (x:=(i:Int) - 1) (by omega) (by omega)]
theorem int_ev (n:Bool) (l:List Int) (v:Int) (h:IsNum n l v) (hl:l.length≤1000000010) :
 Ev (fun k=>octroiref01_Int.f k n l) (if mayB v=true then (v,true) else (0,false)):=by
 obtain ⟨mn,ml,hm,im,lm⟩:=of_ev 4611686018427387904 (by omega) (by omega)
 obtain ⟨r,hr,ht⟩:=cmp_ev l ml h.dig im.dig h.nz im.nz hl (by omega)
 have ha:=h.abs
 have hb:=im.abs
 rw [if_neg (by omega)] at hb
 have hmay:=mayB_iff v
 unfold Tells at ht
 by_cases rp:r>0
 · have hno:¬ (mayB v=true):=by
    rw [hmay]
    have:=ht.1.1 rp
    split at ha<;>omega
   rw [if_neg hno]
   have:=evb hm (f:=fun bt k=>(octroiref01_cmp.f k l bt.2).bind fun t=>(if t>0 then (some (0,false)) else (octroiref01_Int.l0 k 0 (wrap64 ((l.length:Int) - 1)) n l)))
    (evb hr (f:=fun t k=>(if t>0 then (some (0,false)) else (octroiref01_Int.l0 k 0 (wrap64 ((l.length:Int) - 1)) n l))) (evn (fun k=>by rw [if_pos rp])))
   exact this
 · have hle:dval l≤4611686018427387904:=by
    have:=ht.1
    omega
   have hyes:mayB v=true:=by
    rw [hmay]
    split at ha<;>omega
   rw [if_pos hyes]
   have hlp:=int_loop n l h.dig hle hl l.length 0 (Nat.le_refl _) (by rw [List.drop_eq_nil_of_le (Nat.le_refl _)];rfl)
   rw [← h.val] at hlp
   have:=evb hm (f:=fun bt k=>(octroiref01_cmp.f k l bt.2).bind fun t=>(if t>0 then (some (0,false)) else (octroiref01_Int.l0 k 0 (wrap64 ((l.length:Int) - 1)) n l)))
    (evb hr (f:=fun t k=>(if t>0 then (some (0,false)) else (octroiref01_Int.l0 k 0 (wrap64 ((l.length:Int) - 1)) n l))) (Ev.congr (fun k=>by rw [if_neg rp,w64 (by omega) (by omega)]) hlp))
   exact this
theorem ref_may (a:Int):octroiref01_May.f a=some (mayB a):=by
 unfold octroiref01_May.f mayB
 by_cases h:a≥-4611686018427387904
 · rw [if_pos h,decide_eq_true (p:=-4611686018427387904≤a) h];rfl
 · rw [if_neg h,decide_eq_false (p:=-4611686018427387904≤a) h];rfl
theorem sum_loop (l:List Int) (hl:l.length≤1000000) (d:Nat):∀ (i:Nat) (n:Bool) (q:List Int) (s:Int),i+d=l.length→IsNum n q s→q.length≤10+i→
 Ev (fun k=>octroiref01_Sum.l0 k l (i:Int) n q) (sumV ((l.drop i).all mayB) (s+(l.drop i).sum)):=by
 induction d with
 | zero =>
  intro i n q s hi hq hlen
  rw [List.drop_eq_nil_of_le (by omega)]
  simp only [List.all_nil,List.sum_nil,Int.add_zero,sumV,cond_true]
  have:=evb (int_ev n q s hq (by omega)) (β:=Int × Int) (f:=fun bt _=>if bt.2=true then (some (bt.1,0)) else (some (0,3))) (r:=bif mayB s then (s,0) else (0,3)) (evn (fun k=>by cases mayB s<;>simp))
  refine Ev.step (fun k=>?_) this
  simp only [octroiref01_Sum.l0]
  rw [if_neg (by omega)]
 | succ d ih =>
  intro i n q s hi hq hlen
  have hw:wrap64 ((i:Int)+1)=((i+1:Nat):Int):=by rw [w64 (by omega) (by omega)];omega
  rw [drop_rd l i (by omega)]
  simp only [List.all_cons,List.sum_cons]
  by_cases hm:mayB (rd l i)=true
  rotate_left
  · rw [Bool.not_eq_true] at hm
    rw [hm]
    simp only [Bool.false_and,sumV,cond_false]
    refine Ev.step (f:=fun _=>some (0,2)) (fun k=>?_) (Ev.now _)
    simp only [octroiref01_Sum.l0]
    rw [if_pos (by omega),if_pos (by omega),ref_may,hm]
    simp
  · obtain ⟨n1,l1,h1,i1,b1⟩:=of_ev_may _ hm
    rw [hm]
    simp only [Bool.true_and]
    obtain ⟨n2,l2,h2,i2,b2⟩:=add_ev n n1 q l1 s _ hq i1 (by omega) (by omega)
    have:=ih (i+1) n2 l2 (s+rd l i) (by omega) i2 (by omega)
    rw [Int.add_assoc] at this
    refine Ev.step (fun k=>?_) (evb h1 (f:=fun bt k=>(octroiref01_Add.f k n q bt.1 bt.2).bind fun bt=>(octroiref01_Sum.l0 k l ((i+1:Nat):Int) bt.1 bt.2)) (evb h2 (f:=fun bt k=>octroiref01_Sum.l0 k l ((i+1:Nat):Int) bt.1 bt.2) this))
    simp only [octroiref01_Sum.l0]
    rw [if_pos (by omega),if_pos (by omega),ref_may,hm,hw]
    simp
theorem sum_ev (l:List Int) (hl:l.length≤1000000):Ev (fun k=>octroiref01_Sum.f k l) (money_Sum.v l):=by
 have:=sum_loop l hl l.length 0 false [] 0 (by omega) IsNum.zero (by simp)
 simpa [octroiref01_Sum.f,money_Sum.v] using this
end Go.Proofs.Ytlfkfajodnkkhaa.Print
namespace Go.Proofs.Ytlfkfajodnkkhaa.Ax
open Go Go.RowKit Go.Proofs.Ytlfkfajodnkkhaa.Print Go.Proofs.YtlfkfajodnkkhaaW.PrintWords
set_option linter.unusedVariables false
set_option linter.unusedSimpArgs false
theorem C_of_arg {w:World} {L:Loc} {l:List Int} {ρ:Rho} (h:OK ρ w L (.arg [.int .i64] l)) (hl:l.length≤9223372036854775807) :
 ∃ A c,(∀ (ρ':Rho) id,ρ' id=L→den ρ' (.all id) = .slice A l.length c)∧l.length≤c∧Kd.C (Kd.int .i64) w A l.length l:=by
 obtain ⟨hL,⟨hn,hl0⟩|⟨hn,ho,hle,hh⟩⟩:=h
 · have hl0:l=([]:List Int):=hl0
   subst hl0
   exact ⟨L.emp,L.cap,fun ρ' id hid=>by simp only [den,hid,hn];rfl,Nat.zero_le _,rfl,by simp,fun h=>by simp at h⟩
 · refine ⟨some ⟨L.blk,L.off,none⟩,L.cap,fun ρ' id hid=>by simp only [den,hid,hn];rw [hL];rfl,hle,rfl,hl,fun _=>⟨_,rfl,fun j p hp=>⟨[Value.int .i64 p],rfl,rfl,fun i u hu=>?_⟩⟩⟩
   have hi:i=0:=by
    cases i with
    | zero=>rfl
    | succ i=>simp at hu
   subst hi
   simp at hu
   subst hu
   have ha:(⟨L.blk,L.off,none⟩:Addr).add (j * 1+0)=⟨L.blk,L.off+j,none⟩:=by
    unfold Addr.add
    split
    · rename_i h0;congr 1;omega
    · simp
   show w.cell? ((⟨L.blk,L.off,none⟩:Addr).add (j * 1+0))=_
   rw [ha]
   refine hh j _ ?_
   rw [flat_int,List.getElem?_map,hp];rfl
def sumOut (l:List Int):Rd Out:=.br (Nat.ble l.length 1000000) (.ret ⟨.tup [.v (.int .i64 (smV l).1),.v (.int .i64 (smV l).2)],[]⟩) .fail
def sumC (c:List SV) (n m:Nat):Rd Out:=.opt (intsOf c) fun l=>.br (Nat.beq l.length n && Nat.beq l.length m) (sumOut l) .fail
def cSumX:Con:=fun args _=>match args with
 | [s]=>match s with
  | .v x=>match x with
   | .slice none 0 0=>sumOut []
   | _=>.fail
  | .slc id 1 0 n (some m)=>.obj id fun o=>match o with
   | .cells _ c=>sumC c n m
   | .ro _ c=>sumC c n m
   | _=>.fail
  | .all id=>.obj id fun o=>match o with
   | .row _ [.int .i64] l=>sumOut l
   | .arg [.int .i64] l=>sumOut l
   | _=>.fail
  | _=>.fail
 | _=>.fail
theorem sumOut_run {l:List Int} {h:Hp} {out:Out} {ids:List Nat} (hr:(sumOut l).run h=some (out,ids)):l.length≤1000000∧out=⟨.tup [.v (.int .i64 (smV l).1),.v (.int .i64 (smV l).2)],[]⟩:=by
 obtain ⟨hb,hr⟩:=br_run (h:=h) hr
 cases hr
 exact ⟨Nat.le_of_ble_eq_true hb,rfl⟩
theorem cSumX_ok {f : FuncId} {fn : Func} (hf : Try.prog.funcs[f]? = some fn) (hname : (fn.name == "runtime.NumGoroutine") = false) (hbody : fn.body.isSome = true)
 (hc:∀ (A:Option Addr) (c:Nat) (l:List Int) (w:World),l.length≤1000000→Kd.C (Kd.int .i64) w A l.length l→l.length≤c→Calls Try.prog f #[.slice A l.length c] w fun e w'=>e = .returned (.tuple #[.int .i64 (smV l).1,.int .i64 (smV l).2])∧Below w.heap.size w w') (B):ConOk Try.prog B f cSumX:=by
 intro args ρ h w lo out ids hr hrh hfr hfa up
 have fin:∀ (s:SV) (l:List Int) (A:Option Addr) (c:Nat),den ρ s = .slice A l.length c→l.length≤c→Kd.C (Kd.int .i64) w A l.length l→(∃ ids',(sumOut l).run h=some (out,ids'))→
  CallGives Try.prog f (denL ρ [s]).toArray w fun v w'=>∃ ρ',Made B ρ h w lo (lo+wide) out ρ' v w':=by
  rintro s l A c h1 h2 h3 ⟨ids',hr⟩
  obtain ⟨hl,rfl⟩:=sumOut_run hr
  have hargs:(denL ρ [s]).toArray = #[.slice A l.length c]:=by
   show (#[den ρ s]:Array Value)=_
   rw [h1]
  rw [hargs]
  exact gives_same (s:=.tup [.v (.int .i64 (smV l).1),.v (.int .i64 (smV l).2)]) hf hname hbody hrh up (hc A c l w hl h3 h2)
 have lit:∀ (id n m ty:Nat) (c:List SV),OK ρ w (ρ id) (.cells ty c)→(∃ ids',(sumC c n m).run h=some (out,ids'))→CallGives Try.prog f (denL ρ [.slc id 1 0 n (some m)]).toArray w fun v w'=>∃ ρ',Made B ρ h w lo (lo+wide) out ρ' v w':=by
  rintro id n m ty c hk ⟨ids',hr⟩
  unfold sumC at hr
  cases hl:intsOf c with
  | none=>rw [hl] at hr;cases hr
  | some l =>
   rw [hl] at hr
   obtain ⟨hb,hr2⟩:=br_run (h:=h) hr
   rw [Bool.and_eq_true] at hb
   obtain rfl:=Nat.eq_of_beq_eq_true hb.1
   obtain rfl:=Nat.eq_of_beq_eq_true hb.2
   have hlen:=(sumOut_run hr2).1
   obtain ⟨d1,d2⟩:=C_of_cells hk hl (by omega)
   exact fin _ l _ _ d1 (Nat.le_refl _) d2 ⟨_,hr2⟩
 unfold cSumX at hr
 split at hr
 · rename_i s
   split at hr
   · rename_i x
     split at hr
     · exact fin _ [] none 0 rfl (Nat.le_refl _) ⟨rfl,by simp,fun h=>by simp at h⟩ ⟨_,hr⟩
     · cases hr
   · rename_i id n m
     obtain ⟨o,ids',ho,hr⟩:=obj_run hr
     split at hr
     · exact lit id n m _ _ (hrh.ok id _ ho) ⟨_,hr⟩
     · rename_i ty c
       have hk:=hrh.ok id _ ho
       exact lit id n m ty c ⟨hk.1,hk.2.1,hk.2.2⟩ ⟨_,hr⟩
     · cases hr
   · rename_i id
     obtain ⟨o,ids',ho,hr⟩:=obj_run hr
     split at hr
     · rename_i e l
       have hlen:=(sumOut_run hr).1
       obtain ⟨A,c,h1,h2,h3⟩:=C_of_row (hrh.ok id _ ho) (by omega)
       exact fin _ l A c (h1 ρ id rfl) h2 h3 ⟨_,hr⟩
     · rename_i l
       have hlen:=(sumOut_run hr).1
       obtain ⟨A,c,h1,h2,h3⟩:=C_of_arg (hrh.ok id _ ho) (by omega)
       exact fin _ l A c (h1 ρ id rfl) h2 h3 ⟨_,hr⟩
     · cases hr
   · cases hr
 · cases hr
theorem mSum_ok:∀ B,ConOk Try.prog B 51 cSumX:=cSumX_ok Try.func51 (by kernel_rfl) (by kernel_rfl) fun A c l w hl h3 h2=>money_Sum.calls A c l _ _ w h3 h2 rfl
theorem rSum_ok:∀ B,ConOk Try.prog B 13 cSumX:=cSumX_ok Try.func13 (by kernel_rfl) (by kernel_rfl) fun A c l w hl h3 h2=>by
 obtain ⟨K,hK⟩:=sum_ev l hl
 exact octroiref01_Sum.calls K A c l _ _ w h3 h2 (hK K (Nat.le_refl _))
end Go.Proofs.Ytlfkfajodnkkhaa.Ax
namespace Go.Proofs.Ytlfkfajodnkkhaa.Iv
open Go Go.RowKit Go.Proofs.YtlfkfajodnkkhaaW.PrintWords Go.Proofs.Ytlfkfajodnkkhaa.Ax Go.Proofs.Ytlfkfajodnkkhaa.Sh
set_option linter.unusedVariables false
set_option linter.unusedSimpArgs false
abbrev sIt:List Sc:=[.int .i64,.int .i64,.bool,.int .i64]
abbrev sKy:List Sc:=[.bool,.int .i64]
abbrev sSm:List Sc:=[.bool,.int .i64,.int .i64,.int .i64]
abbrev sPt:List Sc:=[.int .i64,.int .i64]
abbrev Item:=Int × Int × Bool × Int
abbrev Key:=Bool × Int
abbrev SumT:=Bool × Int × Int × Int
abbrev tIt:TypeId:=29
abbrev tGp:TypeId:=61
abbrev tSm:TypeId:=48
abbrev tPt:TypeId:=33
abbrev qItem:Pc:=.agg sIt
abbrev qItems:Pc:=.row tIt sIt
abbrev qKey:Pc:=.agg sKy
abbrev qSum:Pc:=.agg sSm
abbrev qGrp:Pc:=.gp tGp sKy sI
abbrev vb (b:Bool):SV:=.v (.bool b)
abbrev OB:=Option (Bool × Unit)
def oT:OB:=some (true,())
def oF:OB:=some (false,())
def rIt (l:List Item) (i:Int):Item:=List.getD l i.toNat (0,0,false,0)
def moreP {α β:Type} (acc:List α) (x:Option β):Option β:=sel (Nat.ble (acc.length+1) 1000000000) x none
noncomputable def CMy:FuncId→Option Con
 | 35=>some Ax.cMay
 | _=>none
theorem CMy_ok:∀ B' g φ,CMy g=some φ→ConOk Try.prog B' g φ:=by
 intro B' g φ h
 unfold CMy at h
 split at h
 · cases h;exact Ax.cMay_ok B'
 · cases h
def mayI (x:Item):Bool:=decide (0≤x.1) && (Ax.mayB x.1 && (decide (0≤x.2.1) && (decide (x.2.1≤1099511627776) && (decide (0≤x.2.2.2) && decide (x.2.2.2≤10000)))))
theorem may_tree (x:Item):evX Try.prog CMy Sh.cn0 40 Try.f30 [qItem] [qBool] (x,()) =
 sel (decide (0≤x.1)) (sel (Ax.mayB x.1) (sel (decide (0≤x.2.1)) (sel (decide (x.2.1≤1099511627776)) (sel (decide (0≤x.2.2.2)) (some (decide (x.2.2.2≤10000),())) oF) oF) oF) oF) oF:=by kernel_rfl
theorem may_one (x:Item):sel (decide (0≤x.1)) (sel (Ax.mayB x.1) (sel (decide (0≤x.2.1)) (sel (decide (x.2.1≤1099511627776)) (sel (decide (0≤x.2.2.2)) (some (decide (x.2.2.2≤10000),())) oF) oF) oF) oF) oF=some (mayI x,()):=by
 unfold mayI
 cases decide (0≤x.1)<;>cases Ax.mayB x.1<;>cases decide (0≤x.2.1)<;>cases decide (x.2.1≤1099511627776)<;>cases decide (0≤x.2.2.2)<;>rfl
noncomputable def cMayI:Con:=conX [qItem] [qBool] fun x=>some (mayI x.1,())
theorem cMayI_ok (B):ConOk Try.prog B 30 cMayI :=
 toldP (lin:=[qItem]) (lout:=[qBool]) CMy_ok Try.func30 (by kernel_rfl) (by kernel_rfl) (fun x=>some (mayI x.1,())) (fun x y h=>by
  obtain ⟨a,u⟩:=x
  exact (may_tree a).trans ((may_one a).trans h)) (by decide) B
noncomputable def CWr:FuncId→Option Con
 | 30=>some cMayI
 | _=>none
theorem CWr_ok:∀ B' g φ,CWr g=some φ→ConOk Try.prog B' g φ:=by
 intro B' g φ h
 unfold CWr at h
 split at h
 · cases h;exact cMayI_ok B'
 · cases h
theorem wrong_tree (x:Item):evX Try.prog CWr Sh.cn0 40 Try.f29 [qItem] [qBool] (x,())=some (!mayI x,()):=by kernel_rfl
noncomputable def cWrong:Con:=conX [qItem] [qBool] fun x=>some (!mayI x.1,())
theorem cWrong_ok (B):ConOk Try.prog B 29 cWrong :=
 toldP (lin:=[qItem]) (lout:=[qBool]) CWr_ok Try.func29 (by kernel_rfl) (by kernel_rfl) (fun x=>some (!mayI x.1,())) (fun x y h=>by
  obtain ⟨a,u⟩:=x
  exact (wrong_tree a).trans h) (by decide) B
theorem key_tree (x:Item):evX Try.prog (fun _=>none) Sh.cn0 40 Try.f50 [qItem] [qKey] (x,())=some ((x.2.2.1,x.2.2.2),()):=by kernel_rfl
noncomputable def cKey:Con:=conX [qItem] [qKey] fun x=>some ((x.1.2.2.1,x.1.2.2.2),())
theorem cKey_ok (B):ConOk Try.prog B 50 cKey :=
 toldP (lin:=[qItem]) (lout:=[qKey]) none_ok Try.func50 (by kernel_rfl) (by kernel_rfl) (fun x=>some ((x.1.2.2.1,x.1.2.2.2),())) (fun x y h=>by
  obtain ⟨a,u⟩:=x
  exact (key_tree a).trans h) (by decide) B
abbrev fnW:SV:=.fn (.func 29) [] []
abbrev qWrong:Pc:=.fn 29 []
noncomputable def CIx:FuncId→Option Con
 | 29=>some cWrong
 | _=>none
theorem CIx_ok:∀ B' g φ,CIx g=some φ→ConOk Try.prog B' g φ:=by
 intro B' g φ h
 unfold CIx at h
 split at h
 · cases h;exact cWrong_ok B'
 · cases h
noncomputable abbrev fIx:Func:=Try.f49
def T2:Nat→Option (List Nat × List (Nat × TypeId × List Sc))
 | 2=>some ([0,1,7,8],[])
 | _=>none
noncomputable def I2 (F kk:Nat) (l:List Item) (n i:Int):Option (Int × Unit):=loopAt (eff Try.prog CIx) fIx.ntmps (cnRow 1 T2) F Try.prog fIx (KX [qInt]) [.R,.L,.R,.D] kk
 ⟨[(0,.all 0),(1,fnW),(7,vi n),(8,vi i)],[(0,.arg sIt l)],2⟩
theorem I2_eq (F kk:Nat) (l:List Item) (n i:Int):I2 F (kk+1) l n i=sel (decide (i<n)) (Sh.idxP l i (sel (!mayI (rIt l i)) (some (i,())) (I2 F kk l n (Sh.IT.wrap (i+1))))) (some ((-1:Int),())):=by kernel_rfl
theorem ix_tree (F:Nat) (l:List Item):evX Try.prog CIx (cnRow 1 T2) F fIx [qItems,qWrong] [qInt] (l,(),())=I2 F F l (l.length:Int) 0:=by kernel_rfl
noncomputable def CGs:FuncId→Option Con
 | 51=>some Ax.cSumX
 | 52=>some Ax.cPart
 | _=>none
theorem CGs_ok:∀ B' g φ,CGs g=some φ→ConOk Try.prog B' g φ:=by
 intro B' g φ h
 unfold CGs at h
 split at h
 · cases h;exact Ax.mSum_ok B'
 · cases h;exact Ax.cPart_ok B'
 · cases h
noncomputable abbrev fGs:Func:=Try.f33
def T3:Nat→Option (List Nat × List (Nat × TypeId × List Sc))
 | 3=>some ([0,1,4,6,16,17,18],[(6,tI,sI)])
 | _=>none
abbrev OS:=Option (SumT × Int × Unit)
def zS (e:Int):OS:=some ((false,0,0,0),e,())
noncomputable def G3 (F kk:Nat) (g:Bool) (bp:Int) (at':List Int) (l:List Item) (am:List Int) (n i:Int):OS:=loopAt (eff Try.prog CGs) fGs.ntmps (cnRow 1 T3) F Try.prog fGs (KX [qSum,qInt]) [.R,.R,.L,.R,.D] kk
 ⟨[(0,.ptr 0 0),(1,.all 1),(4,.ptr 2 0),(6,.all 3),(16,.all 4),(17,vi n),(18,vi i)],[(0,.ro tGp [vb g,vi bp,.all 4]),(1,.arg sIt l),(2,.cells tSm [vb false,vi 0,vi 0,vi 0]),(3,.row tI sI am),(4,.arg sI at')],6⟩
def restG (g:Bool) (bp:Int) (am:List Int):OS:=sel (Nat.ble am.length 1000000) (sel ((Ax.smV am).2 != 0) (zS (Ax.smV am).2)
 (sel ((Ax.partV (Ax.smV am).1 g bp).2.2 != 0) (zS (Ax.partV (Ax.smV am).1 g bp).2.2) (some ((g,bp,(Ax.partV (Ax.smV am).1 g bp).1,(Ax.partV (Ax.smV am).1 g bp).2.1),(0:Int),())))) none
theorem G3_eq (F kk:Nat) (g:Bool) (bp:Int) (at':List Int) (l:List Item) (am:List Int) (n i:Int):G3 F (kk+1) g bp at' l am n i =
 sel (decide (i<n)) (Sh.idxP at' i (Sh.idxP l (rI at' i) (moreP am (G3 F kk g bp at' l (am ++ [(rIt l (rI at' i)).1]) n (Sh.IT.wrap (i+1)))))) (restG g bp am):=by kernel_rfl
theorem gs_tree (F:Nat) (g:Bool) (bp:Int) (at':List Int) (l:List Item):evX Try.prog CGs (cnRow 1 T3) F fGs [qGrp,qItems] [qSum,qInt] (((g,bp),at'),l,())=G3 F F g bp at' l [] (at'.length:Int) 0:=by kernel_rfl
noncomputable def CGw (g1:List Int→Option (Int × Unit)) (g2:List Int→Int→OL):FuncId→Option Con
 | 41=>some (conX [qInts,qInt] [qInts] fun x=>g2 x.1 x.2.1)
 | 40=>some (conX [qInts] [qInt] fun x=>g1 x.1)
 | _=>none
theorem CGw_ok:∀ B' g φ,CGw maxV repV g=some φ→ConOk Try.prog B' g φ:=by
 intro B' g φ h
 unfold CGw at h
 split at h
 · cases h;exact cRep_ok B'
 · cases h;exact cMax_ok B'
 · cases h
noncomputable abbrev fGw:Func:=Try.f17
def T4:Nat→Option (List Nat × List (Nat × TypeId × List Sc))
 | 3=>some ([1,5,11,12,13],[(5,tI,sI)])
 | _=>none
noncomputable def W3 (g1:List Int→Option (Int × Unit)) (g2:List Int→Int→OL) (F kk:Nat) (g:Bool) (bp:Int) (at':List Int) (l:List Item) (out:List Int) (n i:Int):OL:=loopAt (eff Try.prog (CGw g1 g2)) fGw.ntmps (cnRow 1 T4) F Try.prog fGw (KX [qInts]) [.R,.R,.L,.R,.D] kk
 ⟨[(1,.all 1),(5,.all 2),(11,.all 3),(12,vi n),(13,vi i)],[(0,.ro tGp [vb g,vi bp,.all 3]),(1,.arg sIt l),(2,.row tI sI out),(3,.arg sI at')],5⟩
def restW (g1:List Int→Option (Int × Unit)) (g2:List Int→Int→OL) (out:List Int):OL:=obnd (g1 out) fun y=>sel (y.1 == 0) (obnd (g2 [(1:Int)] (out.length:Int)) fun z=>some (z.1,())) (some (out,()))
theorem W3_eq (g1:List Int→Option (Int × Unit)) (g2:List Int→Int→OL) (F kk:Nat) (g:Bool) (bp:Int) (at':List Int) (l:List Item) (out:List Int) (n i:Int):W3 g1 g2 F (kk+1) g bp at' l out n i =
 sel (decide (i<n)) (Sh.idxP at' i (Sh.idxP l (rI at' i) (moreP out (W3 g1 g2 F kk g bp at' l (out ++ [(rIt l (rI at' i)).2.1]) n (Sh.IT.wrap (i+1)))))) (restW g1 g2 out):=by kernel_rfl
theorem gw_tree (g1:List Int→Option (Int × Unit)) (g2:List Int→Int→OL) (F:Nat) (g:Bool) (bp:Int) (at':List Int) (l:List Item):evX Try.prog (CGw g1 g2) (cnRow 1 T4) F fGw [qGrp,qItems] [qInts] (((g,bp),at'),l,())=W3 g1 g2 F F g bp at' l [] (at'.length:Int) 0:=by kernel_rfl
end Go.Proofs.Ytlfkfajodnkkhaa.Iv
namespace Go.Proofs.Ytlfkfajodnkkhaa.Iv
open Go Go.RowKit Go.Proofs.YtlfkfajodnkkhaaW.PrintWords Go.Proofs.Ytlfkfajodnkkhaa.Ax Go.Proofs.Ytlfkfajodnkkhaa.Sh
set_option linter.unusedVariables false
set_option linter.unusedSimpArgs false
theorem idxG {α β:Type} (l:List α) (i:Int) (h0:0≤i) (h:i.toNat<l.length) (x:Option β):Sh.idxP l i x=x:=by
 unfold Sh.idxP
 rw [decide_eq_true h0,decide_eq_true (show i<(l.length:Int) by omega),decide_eq_true h];rfl
theorem rIt_mid (X Y:List Item) (a:Item):rIt (X ++ a :: Y) (X.length:Int)=a:=by
 unfold rIt
 rw [Int.toNat_natCast,List.getD_eq_getElem?_getD,List.getElem?_append_right (Nat.le_refl _),Nat.sub_self];rfl
theorem rI_mid (X Y:List Int) (a:Int):rI (X ++ a :: Y) (X.length:Int)=a:=by
 unfold rI
 rw [Int.toNat_natCast,List.getD_eq_getElem?_getD,List.getElem?_append_right (Nat.le_refl _),Nat.sub_self];rfl
theorem wrS {n:Nat} (h:n≤100000):Sh.IT.wrap ((n:Int)+1)=((n+1:Nat):Int):=by
 show IntKind.i64.wrap _=_
 rw [IntKind.wrap_i64];omega
def ixF:List Item→Int→Int
 | [],_=>-1
 | x :: l,i=>bif !mayI x then i else ixF l (i+1)
theorem I2_run (F:Nat) (l:List Item) (hl:l.length≤1000):∀ (Y X:List Item) (kk:Nat),l=X ++ Y→Y.length<kk→I2 F kk l (l.length:Int) (X.length:Int)=some (ixF Y (X.length:Int),()):=by
 intro Y
 induction Y with
 | nil =>
  intro X kk e hk
  obtain ⟨k,rfl⟩:∃ k,kk=k+1:=⟨kk - 1,by simp at hk;omega⟩
  have hln:l.length=X.length:=by rw [e];simp
  rw [I2_eq,decide_eq_false (by omega),sel_false];rfl
 | cons a Y ih =>
  intro X kk e hk
  obtain ⟨k,rfl⟩:∃ k,kk=k+1:=⟨kk - 1,by simp at hk;omega⟩
  rw [List.length_cons] at hk
  have hln:l.length=X.length+(Y.length+1):=by rw [e];simp
  have er:rIt l (X.length:Int)=a:=by rw [e];exact rIt_mid X Y a
  rw [I2_eq,decide_eq_true (by omega),sel_true,idxG l _ (by omega) (by omega),er,wrS (by omega)]
  have:=ih (X ++ [a]) k (by rw [e];simp) (by omega)
  rw [List.length_append,List.length_singleton] at this
  rw [this]
  show _=some ((bif !mayI a then (X.length:Int) else ixF Y ((X.length:Int)+1)),())
  cases (!mayI a)<;>rfl
def wrongB (l:List Item):Bool:=l.any fun x=>!mayI x
theorem ixF_any:∀ (l:List Item) (i:Int),0≤i→decide (0≤ixF l i)=wrongB l
 | [],i,h=>rfl
 | x :: l,i,h=>by
  show decide (0≤(bif !mayI x then i else ixF l (i+1)))=(!mayI x || wrongB l)
  cases (!mayI x) with
  | true=>rw [cond_true,decide_eq_true h];rfl
  | false=>rw [cond_false,ixF_any l (i+1) (by omega)];rfl
def ixV (l:List Item):Option (Int × Unit):=bif Nat.ble l.length 1000 then some (ixF l 0,()) else none
theorem ix_run (l:List Item) (y:Int × Unit) (h:ixV l=some y):evX Try.prog CIx (cnRow 1 T2) 1100 fIx [qItems,qWrong] [qInt] (l,(),())=some y:=by
 unfold ixV at h
 cases hb:Nat.ble l.length 1000 with
 | false=>rw [hb] at h;cases h
 | true =>
  rw [hb] at h
  rw [← Option.some.inj h]
  have hl:=Nat.le_of_ble_eq_true hb
  exact (ix_tree 1100 l).trans (I2_run 1100 l hl l [] 1100 rfl (by omega))
noncomputable def cIx:Con:=conX [qItems,qWrong] [qInt] fun x=>ixV x.1
theorem cIx_ok (B):ConOk Try.prog B 49 cIx :=
 conX_ok Sh.mixed Try.func49 (by kernel_rfl) (by kernel_rfl) CIx_ok (fun B' w=>cnRow_ok (pin:=1) (T:=T2)) [qItems,qWrong] [qInt] (by decide) (fun _=>1100) (fun x=>ixV x.1) (fun x y h=>by
  obtain ⟨l,v,u⟩:=x
  exact ix_run l y h) B
noncomputable def CCt (g:List Item→Option (Int × Unit)):FuncId→Option Con
 | 49=>some (conX [qItems,qWrong] [qInt] fun x=>g x.1)
 | _=>none
theorem CCt_ok:∀ B' g φ,CCt ixV g=some φ→ConOk Try.prog B' g φ:=by
 intro B' g φ h
 unfold CCt at h
 split at h
 · cases h;exact cIx_ok B'
 · cases h
theorem ct_tree (g:List Item→Option (Int × Unit)) (l:List Item):evX Try.prog (CCt g) Sh.cn0 40 Try.f31 [qItems,qWrong] [qBool] (l,(),())=obnd (g l) fun y=>some (decide (0≤y.1),()):=by kernel_rfl
def ctV (l:List Item):OB:=bif Nat.ble l.length 1000 then some (wrongB l,()) else none
theorem ct_run (l:List Item) (y:Bool × Unit) (h:ctV l=some y):evX Try.prog (CCt ixV) Sh.cn0 40 Try.f31 [qItems,qWrong] [qBool] (l,(),())=some y:=by
 refine (ct_tree ixV l).trans (Eq.trans ?_ h)
 unfold ctV ixV
 cases Nat.ble l.length 1000 with
 | false=>rfl
 | true=>rw [cond_true,cond_true,ob_some,ixF_any l 0 (by decide)]
noncomputable def cCt:Con:=conX [qItems,qWrong] [qBool] fun x=>ctV x.1
theorem cCt_ok (B):ConOk Try.prog B 31 cCt :=
 toldP (lin:=[qItems,qWrong]) (lout:=[qBool]) CCt_ok Try.func31 (by kernel_rfl) (by kernel_rfl) (fun x=>ctV x.1) (fun x y h=>by
  obtain ⟨l,v,u⟩:=x
  exact ct_run l y h) (by decide) B
def okAt (at':List Int) (n:Nat):Bool:=Nat.ble at'.length 1000 && at'.all fun i=>decide (0≤i) && decide (i<(n:Int))
theorem okAt_d {at':List Int} {n:Nat} (h:okAt at' n=true):at'.length≤1000∧∀ i∈at',0≤i∧i<(n:Int):=by
 unfold okAt at h
 rw [Bool.and_eq_true] at h
 refine ⟨Nat.le_of_ble_eq_true h.1,fun i hi=>?_⟩
 have:=List.all_eq_true.1 h.2 i hi
 simpa only [Bool.and_eq_true,decide_eq_true_eq] using this
def amts (l:List Item) (at':List Int):List Int:=at'.map fun i=>(rIt l i).1
def wgts (l:List Item) (at':List Int):List Int:=at'.map fun i=>(rIt l i).2.1
theorem G3_run (F:Nat) (g:Bool) (bp:Int) (at':List Int) (l:List Item) (h1:at'.length≤1000):∀ (Y X am:List Int) (kk:Nat),at'=X ++ Y→(∀ i∈Y,0≤i∧i<(l.length:Int))→am.length=X.length→Y.length<kk→
 G3 F kk g bp at' l am (at'.length:Int) (X.length:Int)=restG g bp (am ++ amts l Y):=by
 intro Y
 induction Y with
 | nil =>
  intro X am kk e hy ha hk
  obtain ⟨k,rfl⟩:∃ k,kk=k+1:=⟨kk - 1,by simp at hk;omega⟩
  have hln:at'.length=X.length:=by rw [e];simp
  rw [G3_eq,decide_eq_false (by omega),sel_false]
  show _=restG g bp (am ++ [])
  rw [List.append_nil]
 | cons a Y ih =>
  intro X am kk e hy ha hk
  obtain ⟨k,rfl⟩:∃ k,kk=k+1:=⟨kk - 1,by simp at hk;omega⟩
  rw [List.length_cons] at hk
  have hln:at'.length=X.length+(Y.length+1):=by rw [e];simp
  have er:rI at' (X.length:Int)=a:=by rw [e];exact rI_mid X Y a
  have ha0:=hy a (by simp)
  rw [G3_eq,decide_eq_true (by omega),sel_true,idxG at' _ (by omega) (by omega),er,idxG l _ (by omega) (by omega),wrS (by omega)]
  unfold moreP
  rw [Nat.ble_eq_true_of_le (by omega),sel_true]
  have:=ih (X ++ [a]) (am ++ [(rIt l a).1]) k (by rw [e];simp) (fun i hi=>hy i (by simp [hi])) (by simp [ha]) (by omega)
  rw [List.length_append,List.length_singleton,List.append_assoc] at this
  exact this
def gsV (g:Bool) (bp:Int) (at':List Int) (l:List Item):OS:=bif okAt at' l.length then restG g bp (amts l at') else none
theorem gs_run (g:Bool) (bp:Int) (at':List Int) (l:List Item) (y:SumT × Int × Unit) (h:gsV g bp at' l=some y):evX Try.prog CGs (cnRow 1 T3) 1100 fGs [qGrp,qItems] [qSum,qInt] (((g,bp),at'),l,())=some y:=by
 unfold gsV at h
 cases hb:okAt at' l.length with
 | false=>rw [hb] at h;cases h
 | true =>
  rw [hb] at h
  obtain ⟨h1,h2⟩:=okAt_d hb
  refine (gs_tree 1100 g bp at' l).trans (Eq.trans ?_ h)
  exact G3_run 1100 g bp at' l h1 at' [] [] 1100 rfl h2 rfl (by omega)
noncomputable def cGs:Con:=conX [qGrp,qItems] [qSum,qInt] fun x=>gsV x.1.1.1 x.1.1.2 x.1.2 x.2.1
theorem cGs_ok (B):ConOk Try.prog B 33 cGs :=
 conX_ok Sh.mixed Try.func33 (by kernel_rfl) (by kernel_rfl) CGs_ok (fun B' w=>cnRow_ok (pin:=1) (T:=T3)) [qGrp,qItems] [qSum,qInt] (by decide) (fun _=>1100) (fun x=>gsV x.1.1.1 x.1.1.2 x.1.2 x.2.1) (fun x y h=>by
  obtain ⟨⟨⟨g,bp⟩,at'⟩,l,u⟩:=x
  exact gs_run g bp at' l y h) B
theorem W3_run (g1:List Int→Option (Int × Unit)) (g2:List Int→Int→OL) (F:Nat) (g:Bool) (bp:Int) (at':List Int) (l:List Item) (h1:at'.length≤1000):∀ (Y X am:List Int) (kk:Nat),at'=X ++ Y→(∀ i∈Y,0≤i∧i<(l.length:Int))→am.length=X.length→Y.length<kk→
 W3 g1 g2 F kk g bp at' l am (at'.length:Int) (X.length:Int)=restW g1 g2 (am ++ wgts l Y):=by
 intro Y
 induction Y with
 | nil =>
  intro X am kk e hy ha hk
  obtain ⟨k,rfl⟩:∃ k,kk=k+1:=⟨kk - 1,by simp at hk;omega⟩
  have hln:at'.length=X.length:=by rw [e];simp
  rw [W3_eq,decide_eq_false (by omega),sel_false]
  show _=restW g1 g2 (am ++ [])
  rw [List.append_nil]
 | cons a Y ih =>
  intro X am kk e hy ha hk
  obtain ⟨k,rfl⟩:∃ k,kk=k+1:=⟨kk - 1,by simp at hk;omega⟩
  rw [List.length_cons] at hk
  have hln:at'.length=X.length+(Y.length+1):=by rw [e];simp
  have er:rI at' (X.length:Int)=a:=by rw [e];exact rI_mid X Y a
  have ha0:=hy a (by simp)
  rw [W3_eq,decide_eq_true (by omega),sel_true,idxG at' _ (by omega) (by omega),er,idxG l _ (by omega) (by omega),wrS (by omega)]
  unfold moreP
  rw [Nat.ble_eq_true_of_le (by omega),sel_true]
  have:=ih (X ++ [a]) (am ++ [(rIt l a).2.1]) k (by rw [e];simp) (fun i hi=>hy i (by simp [hi])) (by simp [ha]) (by omega)
  rw [List.length_append,List.length_singleton,List.append_assoc] at this
  exact this
def wtsG (ws:List Int):List Int:=bif mxOf ws == 0 then List.replicate ws.length 1 else ws
def gwV (at':List Int) (l:List Item):OL:=bif okAt at' l.length && (decide (1≤at'.length) && decide (at'.length≤256)) then some (wtsG (wgts l at'),()) else none
theorem restW_one (ws:List Int) (h1:1≤ws.length) (h2:ws.length≤256):restW maxV repV ws=some (wtsG ws,()):=by
 have hm:maxV ws=some (mxOf ws,()):=by
  unfold maxV
  rw [decide_eq_true (by omega),decide_eq_true (by omega)];rfl
 unfold restW wtsG
 rw [hm,ob_some]
 dsimp only
 cases mxOf ws == 0 with
 | false=>rfl
 | true =>
  have hr:repV [(1:Int)] (ws.length:Int)=some (List.replicate ws.length (1:Int),()):=by
   unfold repV
   rw [decide_eq_true rfl,decide_eq_true (by omega),decide_eq_true (by omega)];rfl
  rw [sel_true,hr];rfl
theorem gw_run (g:Bool) (bp:Int) (at':List Int) (l:List Item) (y:List Int × Unit) (h:gwV at' l=some y):evX Try.prog (CGw maxV repV) (cnRow 1 T4) 1100 fGw [qGrp,qItems] [qInts] (((g,bp),at'),l,())=some y:=by
 unfold gwV at h
 cases hb:okAt at' l.length && (decide (1≤at'.length) && decide (at'.length≤256)) with
 | false=>rw [hb] at h;cases h
 | true =>
  rw [hb] at h
  simp only [Bool.and_eq_true,decide_eq_true_eq] at hb
  obtain ⟨h1,h2⟩:=okAt_d hb.1
  refine (gw_tree maxV repV 1100 g bp at' l).trans (Eq.trans ?_ h)
  refine (W3_run maxV repV 1100 g bp at' l h1 at' [] [] 1100 rfl h2 rfl (by omega)).trans ?_
  rw [List.nil_append]
  exact restW_one _ (by unfold wgts;rw [List.length_map];exact hb.2.1) (by unfold wgts;rw [List.length_map];exact hb.2.2)
noncomputable def cGw:Con:=conX [qGrp,qItems] [qInts] fun x=>gwV x.1.2 x.2.1
theorem cGw_ok (B):ConOk Try.prog B 17 cGw :=
 conX_ok Sh.mixed Try.func17 (by kernel_rfl) (by kernel_rfl) CGw_ok (fun B' w=>cnRow_ok (pin:=1) (T:=T4)) [qGrp,qItems] [qInts] (by decide) (fun _=>1100) (fun x=>gwV x.1.2 x.2.1) (fun x y h=>by
  obtain ⟨⟨⟨g,bp⟩,at'⟩,l,u⟩:=x
  exact gw_run g bp at' l y h) B
end Go.Proofs.Ytlfkfajodnkkhaa.Iv
namespace Go.Proofs.Ytlfkfajodnkkhaa.Iv
open Go Go.RowKit Go.Proofs.YtlfkfajodnkkhaaW.PrintWords Go.Proofs.Ytlfkfajodnkkhaa.Ax Go.Proofs.Ytlfkfajodnkkhaa.Sh
set_option linter.unusedVariables false
set_option linter.unusedSimpArgs false
abbrev PartT:=Int × Int
abbrev YV:=Option (SV × Hp)
abbrev tIts:TypeId:=22
abbrev tPts:TypeId:=24
def rPt (l:List PartT) (i:Int):PartT:=List.getD l i.toNat (0,0)
def hOf (g:Bool) (bp:Int) (at':List Int) (l:List Item) (out:List PartT):Hp:=[(0,.ro tGp [vb g,vi bp,.all 3]),(1,.cells tIts [.all 4]),(2,.cells tPts [.all 5]),(3,.arg sI at'),(4,.arg sIt l),(5,.row tPt sPt out)]
noncomputable def COf (gw:List Int→List Item→OL):FuncId→Option Con
 | 17=>some (conX [qGrp,qItems] [qInts] fun x=>gw x.1.2 x.2.1)
 | 16=>some cSplit
 | _=>none
theorem COf_ok:∀ B' g φ,COf gwV g=some φ→ConOk Try.prog B' g φ:=by
 intro B' g φ h
 unfold COf at h
 split at h
 · cases h;exact cGw_ok B'
 · cases h;exact cSplit_ok B'
 · cases h
noncomputable abbrev fO1:Func:=Try.f15
def TOf:Nat→Option (List Nat × List (Nat × TypeId × List Sc))
 | 3=>some ([0,2,3,6,22,23,24],[])
 | _=>none
noncomputable def D3 (gw:List Int→List Item→OL) (F kk:Nat) (g:Bool) (bp:Int) (at':List Int) (l:List Item) (out:List PartT) (taxes:List Int) (n i:Int):YV:=loopAt (eff Try.prog (COf gw)) fO1.ntmps (cnRow 6 TOf) F Try.prog fO1 (KG (gcSt [0] 6) 6) [.R,.R,.R,.D] kk
 ⟨[(0,.ptr 0 0),(2,.ptr 1 0),(3,.ptr 2 0),(6,.all 6),(22,.all 3),(23,vi n),(24,vi i)],hOf g bp at' l out ++ [(6,.row tI sI taxes)],13⟩
def endO (g:Bool) (bp:Int) (at':List Int) (l:List Item) (out:List PartT):YV:=some (.tup [],hOf g bp at' l out)
def o1 (l:List Item) (out:List PartT) (j t:Int):List PartT:=out.set j.toNat ((rIt l j).1,t)
def o2 (out:List PartT) (j t:Int):List PartT:=out.set j.toNat (Sh.IT.wrap ((rPt out j).1 - t),(rPt out j).2)
theorem D3_eq (gw:List Int→List Item→OL) (F kk:Nat) (g:Bool) (bp:Int) (at':List Int) (l:List Item) (out:List PartT) (taxes:List Int) (n i:Int):D3 gw F (kk+1) g bp at' l out taxes n i =
 sel (decide (i<n)) (Sh.idxP at' i (Sh.idxP l (rI at' i) (Sh.idxP taxes i (Sh.idxP out (rI at' i)
  (sel g (Sh.idxP (o1 l out (rI at' i) (rI taxes i)) (rI at' i) (Sh.idxP taxes i (Sh.idxP (o1 l out (rI at' i) (rI taxes i)) (rI at' i)
   (D3 gw F kk g bp at' l (o2 (o1 l out (rI at' i) (rI taxes i)) (rI at' i) (rI taxes i)) taxes n (Sh.IT.wrap (i+1))))))
   (D3 gw F kk g bp at' l (o1 l out (rI at' i) (rI taxes i)) taxes n (Sh.IT.wrap (i+1)))))))) (endO g bp at' l out):=by kernel_rfl
noncomputable def evO1 (gw:List Int→List Item→OL) (F:Nat) (g:Bool) (bp:Int) (at':List Int) (l:List Item) (out:List PartT) (s:SumT):YV:=evFn Try.prog (COf gw) (cnRow 6 TOf) F fO1 [.ptr 0 0,.agg [vb s.1,vi s.2.1,vi s.2.2.1,vi s.2.2.2],.ptr 1 0,.ptr 2 0] (hOf g bp at' l out) 6 (KG (gcSt [0] 6) 6)
theorem evO1_eq (gw:List Int→List Item→OL) (F:Nat) (g:Bool) (bp:Int) (at':List Int) (l:List Item) (out:List PartT) (s:SumT):evO1 gw F g bp at' l out s=obnd (gw at' l) fun w=>D3 gw F F g bp at' l out (spL s.2.2.2 w.1) (at'.length:Int) 0:=by kernel_rfl
end Go.Proofs.Ytlfkfajodnkkhaa.Iv
namespace Go.Proofs.Ytlfkfajodnkkhaa.Iv
open Go Go.RowKit Go.Proofs.YtlfkfajodnkkhaaW.PrintWords Go.Proofs.Ytlfkfajodnkkhaa.Ax Go.Proofs.Ytlfkfajodnkkhaa.Sh
set_option linter.unusedVariables false
set_option linter.unusedSimpArgs false
def seqL:Code→Code
 | .seq a _=>a
 | c=>c
def seqR:Code→Code
 | .seq _ b=>b
 | c=>c
def inB:Code→Code
 | .block _ c=>c
 | c=>c
def inL:Code→Code
 | .loop c=>c
 | c=>c
def inT:Code→Code
 | .cond _ a _=>a
 | c=>c
noncomputable abbrev fGr:Func:=Try.f32
abbrev tGptr:TypeId:=54
abbrev sA:List Sc:=[.adr]
abbrev MT:=List (Key × Option Addr)
noncomputable def CGr:FuncId→Option Con
 | 50=>some cKey
 | _=>none
theorem CGr_ok:∀ B' g φ,CGr g=some φ→ConOk Try.prog B' g φ:=by
 intro B' g φ h
 unfold CGr at h
 split at h
 · cases h;exact cKey_ok B'
 · cases h
noncomputable def r0:Code:=seqL (bodyOf fGr)
noncomputable def r1:Code:=seqL (seqR (bodyOf fGr))
noncomputable def q2:Code:=seqR (seqR (bodyOf fGr))
noncomputable def r2:Code:=seqL (seqL q2)
noncomputable def rE:Code:=seqR q2
noncomputable def gL:Code:=inL (inB (seqR (seqL q2)))
noncomputable def r3:Code:=seqL gL
noncomputable def gB:Code:=inB (seqL (seqR (seqR gL)))
noncomputable def r11:Code:=seqR (seqR (seqR gL))
noncomputable def r4:Code:=seqL gB
noncomputable def r5:Code:=seqL (seqR gB)
noncomputable def gC:Code:=seqL (seqR (seqR gB))
noncomputable def r10:Code:=seqR (seqR (seqR gB))
noncomputable def r6:Code:=seqL gC
noncomputable def gN:Code:=inT (seqR gC)
noncomputable def r7:Code:=seqL gN
noncomputable def r89:Code:=seqR gN
theorem gr_code:bodyOf fGr = .seq r0 (.seq r1 (.seq (.seq r2 (.block 0 (.loop gL))) rE)):=by kernel_rfl
theorem gL_code:gL = .seq r3 (.seq (.cond (.tmp 12) .skip (.exit 0)) (.seq (.block 1 (.seq r4 (.seq r5 (.seq (.seq r6 (.cond (.tmp 24) (.seq r7 r89) .skip)) r10)))) r11)):=by kernel_rfl
noncomputable abbrev evG (S:List Nat) (p:Nat) (c:Code) (σ:St):Option St:=ev (eff Try.prog CGr) fGr.ntmps Sh.cn0 1 c σ (Kn S p)
def hH (l:List Item) (T:MT) (ps:List (Option Addr)):Hp:=[(0,.arg sIt l),(1,.mapo sKy sA T),(2,.row tGptr sA ps)]
def sg0 (l:List Item):St:=⟨[(0,.all 0)],[(0,.arg sIt l)],1⟩
def sg1 (l:List Item):St:=⟨[(2,.v (.slice none 0 0)),(3,.map 1),(9,.all 0),(10,vi (l.length:Int)),(11,vi 0)],[(0,.arg sIt l),(1,.mapo sKy sA [])],3⟩
def sgH (l:List Item) (T:MT) (ps:List (Option Addr)) (n i:Int):St:=⟨[(2,.all 2),(3,.map 1),(9,.all 0),(10,vi n),(11,vi i)],hH l T ps,5⟩
def sgI (l:List Item) (T:MT) (ps:List (Option Addr)) (n i:Int):St:=⟨[(2,.all 2),(3,.map 1),(9,.all 0),(10,vi n),(11,vi i),(12,vb (decide (i<n)))],hH l T ps,5⟩
def keyI (x:Item):Key:=(x.2.2.1,x.2.2.2)
def boxI (x:Item):AObj:=.cells tIt [vi x.1,vi x.2.1,vb x.2.2.1,vi x.2.2.2]
def sgA (l:List Item) (T:MT) (ps:List (Option Addr)) (n i:Int) (x:Item) (q:Option Addr) (ok:Bool):St:=⟨[(2,.all 2),(3,.map 1),(4,vi i),(5,.ptr 3 0),(6,.v (.pointer q)),(7,vb ok),(9,.all 0),(10,vi n),(11,vi i)],hH l T ps ++ [(3,boxI x)],6⟩
def sgB (l:List Item) (T:MT) (ps:List (Option Addr)) (n i:Int) (x:Item) (q:Option Addr) (ok:Bool):St:=⟨[(2,.all 2),(3,.map 1),(4,vi i),(5,.ptr 3 0),(6,.v (.pointer q)),(9,.all 0),(10,vi n),(11,vi i),(24,vb ok)],hH l T ps ++ [(3,boxI x)],6⟩
def boxG (k:Key) (s:SV):AObj:=.cells tGp [vb k.1,vi k.2,s]
def sgC (l:List Item) (T:MT) (ps:List (Option Addr)) (n i:Int) (x:Item):St:=⟨[(2,.all 2),(3,.map 1),(4,vi i),(5,.ptr 3 0),(6,.ptr 4 0),(9,.all 0),(10,vi n),(11,vi i)],hH l T ps ++ [(3,boxI x),(4,boxG (keyI x) (.v (.slice none 0 0)))],7⟩
def sgD (l:List Item) (T:MT) (ps:List (Option Addr)) (n i:Int) (x:Item) (q:Option Addr):St:=⟨[(2,.all 2),(3,.map 1),(4,vi i),(5,.ptr 3 0),(6,.v (.pointer q)),(9,.all 0),(10,vi n),(11,vi i)],hH l T ps ++ [(3,boxI x)],6⟩
def sgF (l:List Item) (T:MT) (ps:List (Option Addr)) (n i:Int) (q:Option Addr):St:=⟨[(2,.all 2),(3,.map 1),(4,vi i),(6,.v (.pointer q)),(9,.all 0),(10,vi n),(11,vi i)],hH l T ps,5⟩
def sgE (l:List Item) (T:MT) (ps:List (Option Addr)) (n i:Int) (k:Key) (at':List Int):St:=⟨[(2,.all 2),(3,.map 1),(4,vi i),(6,.ptr 3 0),(9,.all 0),(10,vi n),(11,vi i)],hH l T ps ++ [(3,boxG k (.all 4)),(4,.row tI sI at')],7⟩
def sgK (l:List Item) (T:MT) (ps:List (Option Addr)) (n i:Int) (k:Key) (at':List Int):St:=⟨[(2,.all 2),(3,.map 1),(6,.ptr 3 0),(9,.all 0),(10,vi n),(11,vi i)],hH l T ps ++ [(3,boxG k (.all 4)),(4,.row tI sI at')],9⟩
section
variable (l:List Item) (T:MT) (ps:List (Option Addr)) (n i:Int)
def sg01 (l:List Item):St:=⟨[(0,.all 0),(2,.v (.slice none 0 0)),(3,.map 1)],[(0,.arg sIt l),(1,.mapo sKy sA [])],3⟩
theorem g01_eq:evG [0,2,3] 1 (spineC [r0,r1] .skip) (sg0 l)=some (sg01 l):=by kernel_rfl
theorem g2_eq:evG [2,3,9,10,11] 1 r2 (sg01 l)=some (sg1 l):=by kernel_rfl
def KRg (e:Ex) (σ:St):Option St:=match e with
 | .ret=>gcSt [2] 2 σ
 | _=>none
theorem gE_eq:ev (eff Try.prog CGr) fGr.ntmps Sh.cn0 1 rE (sgH l T ps n i) KRg=some ⟨[(2,.all 2)],[(0,.arg sIt l),(1,.mapo sKy sA T),(2,.row tGptr sA ps)],5⟩:=by kernel_rfl
theorem g3_eq:evG [2,3,9,10,11,12] 2 r3 (sgH l T ps n i)=some (sgI l T ps n i):=by kernel_rfl
def kt:TypeId:=59
noncomputable def okK (k:Key) (T:MT):Bool:=mOk Try.prog kt sKy sA k T
noncomputable def fdK (k:Key) (T:MT):Option (Option Addr):=mFind Try.prog kt sKy sA k T
theorem g45_eq:evG [2,3,4,5,6,7,9,10,11] 2 (spineC [r4,r5] .skip) (sgI l T ps n i)=Sh.idxP l i (sel (okK (keyI (rIt l i)) T)
 (some (sgA l T ps n i (rIt l i) ((fdK (keyI (rIt l i)) T).getD none) (fdK (keyI (rIt l i)) T).isSome)) none):=by kernel_rfl
theorem g6_eq (x:Item) (q:Option Addr) (ok:Bool):evG [2,3,4,5,6,9,10,11,24] 2 r6 (sgA l T ps n i x q ok)=some (sgB l T ps n i x q (!ok)):=by kernel_rfl
theorem g7_eq (x:Item) (q:Option Addr) (ok:Bool):evG [2,3,4,5,6,9,10,11] 2 r7 (sgB l T ps n i x q ok)=some (sgC l T ps n i x):=by kernel_rfl
theorem g89_eq (x:Item) (q:Option Addr):evG [2,3,4,6,9,10,11] 2 r89 (sgD l T ps n i x q)=sel (okK (keyI x) T && (fdK (keyI x) T).isNone)
 (moreP ps (some (sgF l (T ++ [(keyI x,q)]) (ps ++ [q]) n i q))) none:=by kernel_rfl
theorem g10_eq (k:Key) (at':List Int):evG [2,3,6,9,10,11] 4 r10 (sgE l T ps n i k at')=moreP at' (some (sgK l T ps n i k (at' ++ [i]))):=by kernel_rfl
theorem g11_eq:evG [2,3,9,10,11] 2 r11 (sgH l T ps n i)=some (sgH l T ps n (Sh.IT.wrap (i+1))):=by kernel_rfl
end
end Go.Proofs.Ytlfkfajodnkkhaa.Iv
namespace Go.Proofs.Ytlfkfajodnkkhaa.Iv
open Go Go.RowKit Go.Proofs.YtlfkfajodnkkhaaW.PrintWords Go.Proofs.Ytlfkfajodnkkhaa.Ax Go.Proofs.Ytlfkfajodnkkhaa.Sh
set_option linter.unusedVariables false
set_option linter.unusedSimpArgs false
def keyEq:Key→Key→Bool
 | (a,b),(a',b')=>(a == a' && (b == b' && true))
theorem eqK_iv (x y:Key):eqK Try.prog kt sKy x y=some (keyEq x y):=by kernel_rfl
theorem keyEq_iff (x y:Key):keyEq x y=true↔x=y:=by
 obtain ⟨a,b⟩:=x
 obtain ⟨a',b'⟩:=y
 unfold keyEq
 simp only [Bool.and_eq_true,Bool.and_true,beq_iff_eq,Prod.mk.injEq]
def fnd (k:Key) (T:MT):Option (Option Addr):=(T.find? fun p=>keyEq k p.1).map (·.2)
theorem mHit_iv (k:Key) (T:MT):mHit Try.prog kt sKy sA k T=T.filter fun p=>keyEq k p.1:=by
 unfold mHit
 exact List.filter_congr fun p _=>by unfold eqKb;rw [eqK_iv k p.1]
theorem filter_ND (k:Key):∀ T:MT,(T.map (·.1)).Nodup→(T.filter fun p=>keyEq k p.1).length≤1
 | [],_=>by simp
 | p :: T,h=>by
  rw [List.map_cons,List.nodup_cons] at h
  have ih:=filter_ND k T h.2
  rw [List.filter_cons]
  cases hk:keyEq k p.1 with
  | false=>exact ih
  | true =>
   have e:=(keyEq_iff k p.1).1 hk
   have:(T.filter fun p=>keyEq k p.1)=[]:=by
    rw [List.filter_eq_nil_iff]
    intro q hq hc
    have:=(keyEq_iff k q.1).1 hc
    exact h.1 (by rw [← e,this];exact List.mem_map.2 ⟨q,hq,rfl⟩)
   rw [if_pos rfl,this];simp
theorem mOk_iv (k:Key) {T:MT} (h:(T.map (·.1)).Nodup):mOk Try.prog kt sKy sA k T=true:=by
 unfold mOk
 rw [Bool.and_eq_true]
 refine ⟨List.all_eq_true.2 fun p _=>by rw [eqK_iv k p.1];rfl,?_⟩
 rw [mHit_iv]
 exact Nat.ble_eq_true_of_le (filter_ND k T h)
theorem mFind_iv (k:Key) (T:MT):mFind Try.prog kt sKy sA k T=fnd k T:=by
 unfold mFind fnd
 refine (congrArg (fun l:MT=>l.head?.map (fun p=>p.2)) (mHit_iv k T)).trans ?_
 show ((T.filter fun p=>keyEq k p.1).head?).map (fun p=>p.2)=_
 rw [List.head?_filter]
theorem okK_iv (k:Key) {T:MT} (h:(T.map (·.1)).Nodup):okK k T=true:=mOk_iv k h
theorem fdK_iv (k:Key) (T:MT):fdK k T=fnd k T:=mFind_iv k T
abbrev GV:=Key × List Int
def addG (i:Int) (k:Key):List GV→List GV
 | []=>[(k,[i])]
 | g :: gs=>if g.1=k then (g.1,g.2 ++ [i]) :: gs else g :: addG i k gs
def grpsV:List Item→Int→List GV→List GV
 | [],_,gs=>gs
 | x :: l,i,gs=>grpsV l (i+1) (addG i (keyI x) gs)
theorem addG_new (i:Int) (k:Key):∀ gs:List GV,k∉gs.map (·.1)→addG i k gs=gs ++ [(k,[i])]
 | [],_=>rfl
 | g :: gs,h=>by
  rw [List.map_cons,List.mem_cons,not_or] at h
  show (if g.1=k then _ else _)=_
  rw [if_neg (fun e=>h.1 e.symm),addG_new i k gs h.2];rfl
theorem addG_old (i:Int) (k:Key) (at':List Int) (C:List GV):∀ A:List GV,k∉A.map (·.1)→addG i k (A ++ (k,at') :: C)=A ++ (k,at' ++ [i]) :: C
 | [],_=>by show (if k=k then _ else _)=_;rw [if_pos rfl];rfl
 | g :: A,h=>by
  rw [List.map_cons,List.mem_cons,not_or] at h
  show (if g.1=k then _ else _)=_
  rw [if_neg (fun e=>h.1 e.symm)]
  exact congrArg (g :: ·) (addG_old i k at' C A h.2)
def rowVal (L:Ax.Loc):Value:=den (fun _=>L) (.all 0)
def mapVal (L:Ax.Loc):Value:=den (fun _=>L) (.map 0)
def nilL:Ax.Loc:=⟨0,0,0,0,true,none⟩
structure Mem where
 g:Ax.Loc
 r:Ax.Loc
 k:Key
 at':List Int
def Mem.ptr (m:Mem):Option Addr:=some ⟨m.g.blk,0,none⟩
def Mem.gv (m:Mem):GV:=(m.k,m.at')
structure Mem.Ok (m:Mem) (W:World):Prop where
 nn:m.g.nil=false
 of:m.g.off=0
 bl:W.heap[m.g.blk]? = some (.cells #[.bool m.k.1,.int .i64 m.k.2,rowVal m.r] tGp (0,0))
 rw':∀ ρ,OK ρ W m.r (.row tI sI m.at')
def Mem.Fp (m:Mem) (b:Nat):Prop:=b=m.g.blk∨(m.r.nil=false∧b=m.r.blk)
theorem Mem.Ok.keep {m:Mem} {W W':World} (h:m.Ok W) (hs:W.heap.size≤W'.heap.size) (hb:∀ b,m.Fp b→W'.heap[b]? = W.heap[b]?):m.Ok W' :=
 ⟨h.nn,h.of,(hb _ (.inl rfl)).trans h.bl,fun ρ=>(h.rw' ρ).keep (fun ty c e=>by rcases e with e|e<;>cases e) (fun hn=>hb _ (.inr ⟨hn,rfl⟩)) hs⟩
theorem Mem.Ok.lt {m:Mem} {W:World} (h:m.Ok W):∀ b,m.Fp b→b<W.heap.size:=by
 rintro b (rfl|⟨hn,rfl⟩)
 · exact (Array.getElem?_eq_some_iff.1 h.bl).1
 · exact (h.rw' (fun _=>nilL)).lt (fun e=>by cases e) hn
structure GInv (l:List Item) (w W:World) (Ll Lm Lo:Ax.Loc) (T:MT) (ps:List (Option Addr)) (Ms:List Mem):Prop where
 ks:Keeps (Sh.BS w) w W
 lo:∀ ρ,OK ρ W Ll (.arg sIt l)
 lb:Ll.nil=false→Ll.blk<w.heap.size
 mo:∀ ρ,OK ρ W Lm (.mapo sKy sA T)
 mb:w.heap.size≤Lm.blk
 oo:∀ ρ,OK ρ W Lo (.row tGptr sA ps)
 ob:Lo.nil=false→w.heap.size≤Lo.blk∧Lo.blk≠Lm.blk
 ms:∀ m∈Ms,m.Ok W∧(∀ b,m.Fp b→w.heap.size≤b∧b≠Lm.blk∧(Lo.nil=false→b≠Lo.blk))∧(m.r.nil=false→m.r.blk≠m.g.blk)
 pw:Ms.Pairwise fun a b=>∀ x,a.Fp x→¬ b.Fp x
theorem look_H {l:List Item} {T:MT} {ps:List (Option Addr)} {i:Nat} {o:AObj} (h:Ax.look (hH l T ps) i=some o):(i=0∧o = .arg sIt l)∨(i=1∧o = .mapo sKy sA T)∨(i=2∧o = .row tGptr sA ps):=by
 have h1:=look_in h
 simp only [hH,List.mem_cons,Prod.mk.injEq,List.not_mem_nil,or_false] at h1
 exact h1
theorem GInv.hr {l:List Item} {w W:World} {Ll Lm Lo:Ax.Loc} {T:MT} {ps:List (Option Addr)} {Ms:List Mem} (G:GInv l w W Ll Lm Lo T ps Ms) (ρ:Rho) (h0:ρ 0=Ll) (h1:ρ 1=Lm) (h2:ρ 2=Lo):HR (Sh.BS w) ρ (hH l T ps) W:=by
 refine ⟨fun i o ho=>?_,fun i o ho hw hn=>?_,fun i o ho hs hn=>?_,fun i j o o' ho ho' hw hw' hn hn' hij=>?_⟩
 · rcases look_H ho with ⟨rfl,rfl⟩|⟨rfl,rfl⟩|⟨rfl,rfl⟩
   · rw [h0];exact G.lo ρ
   · rw [h1];exact G.mo ρ
   · rw [h2];exact G.oo ρ
 · rcases look_H ho with ⟨rfl,rfl⟩|⟨rfl,rfl⟩|⟨rfl,rfl⟩
   · cases hw
   · rw [h1];exact G.mb
   · rw [h2] at hn ⊢;exact (G.ob hn).1
 · rcases look_H ho with ⟨rfl,rfl⟩|⟨rfl,rfl⟩|⟨rfl,rfl⟩
   · rw [h0] at hn ⊢
     have:=G.lb hn
     show ¬ w.heap.size≤_
     omega
   · cases hs
   · cases hs
 · rcases look_H ho with ⟨rfl,rfl⟩|⟨rfl,rfl⟩|⟨rfl,rfl⟩<;>rcases look_H ho' with ⟨rfl,rfl⟩|⟨rfl,rfl⟩|⟨rfl,rfl⟩
   · cases hw
   · cases hw
   · cases hw
   · cases hw'
   · exact absurd rfl hij
   · rw [h1,h2];rw [h2] at hn';exact fun e=>(G.ob hn').2 e.symm
   · cases hw'
   · rw [h1,h2];rw [h2] at hn;exact (G.ob hn).2
   · exact absurd rfl hij
theorem GInv.after {l:List Item} {w W W':World} {Ll Lm Lo:Ax.Loc} {T T':MT} {ps ps':List (Option Addr)} {Ms Ms':List Mem} (G:GInv l w W Ll Lm Lo T ps Ms) {ρ ρ':Rho} {h h':Hp} (hr:HR (Sh.BS w) ρ h W) (hr':HR (Bn ρ h W) ρ' h' W') (hk:Keeps (Bn ρ h W) W W')
 (h0:Ax.look h' 0=some (.arg sIt l)) (e0:ρ' 0=Ll) (h1:Ax.look h' 1=some (.mapo sKy sA T')) (h2:Ax.look h' 2=some (.row tGptr sA ps'))
 (hms:∀ m∈Ms',m.Ok W∧(∀ b,m.Fp b→w.heap.size≤b∧∀ i o,Ax.look h i=some o→o.own=true→(ρ i).nil=false→b≠(ρ i).blk)∧(m.r.nil=false→m.r.blk≠m.g.blk)) (hpw:Ms'.Pairwise fun a b=>∀ x,a.Fp x→¬ b.Fp x) :
 GInv l w W' Ll (ρ' 1) (ρ' 2) T' ps' Ms':=by
 have up:∀ b,W.heap.size≤b→Sh.BS w b:=fun b hb=>Nat.le_trans G.ks.size hb
 have hsub:=Bn.sub hr up
 have m1:=hr'.ok 1 _ h1
 have hout:∀ m∈Ms',∀ b,m.Fp b→¬ Bn ρ h W b:=by
  intro m hm b hb hB
  have:=(hms m hm).1.lt b hb
  rcases hB with hB|⟨i,o,ho,hw,hn,rfl⟩
  · omega
  · exact ((hms m hm).2.1 _ hb).2 i o ho hw hn rfl
 refine ⟨G.ks.trans (hk.widen hsub),fun ρ2=>?_,G.lb,fun ρ2=>m1,hsub _ (hr'.inB 1 _ h1 rfl m1.1),fun ρ2=>hr'.ok 2 _ h2,fun hn=>⟨hsub _ (hr'.inB 2 _ h2 rfl hn),hr'.inj 2 1 _ _ h2 h1 rfl rfl hn m1.1 (by decide)⟩,fun m hm=>⟨(hms m hm).1.keep hk.size fun b hb=>hk.block b (hout m hm b hb),fun b hb=>⟨((hms m hm).2.1 b hb).1,fun e=>hout m hm b hb (e ▸ hr'.inB 1 _ h1 rfl m1.1),fun hn e=>hout m hm b hb (e ▸ hr'.inB 2 _ h2 rfl hn)⟩,(hms m hm).2.2⟩,hpw⟩
 have:=hr'.ok 0 _ h0
 rw [e0] at this
 exact this
end Go.Proofs.Ytlfkfajodnkkhaa.Iv
namespace Go.Proofs.Ytlfkfajodnkkhaa.Iv
open Go Go.RowKit Go.Proofs.YtlfkfajodnkkhaaW.PrintWords Go.Proofs.Ytlfkfajodnkkhaa.Ax Go.Proofs.Ytlfkfajodnkkhaa.Sh
set_option linter.unusedVariables false
set_option linter.unusedSimpArgs false
theorem wf_chk {p:Nat} {σ:St} (h:(σ.sl.all (fun q=>q.2.lt σ.nx) && σ.hp.all (fun q=>Nat.blt q.1 σ.nx && q.2.lt σ.nx))=true) (hp:p≤σ.nx):Wf p σ:=by
 rw [Bool.and_eq_true,List.all_eq_true,List.all_eq_true] at h
 refine ⟨fun t s hs=>h.1 _ (look_in hs),fun i o ho=>?_,hp⟩
 have:=h.2 _ (look_in ho)
 rw [Bool.and_eq_true] at this
 exact ⟨blt_lt this.1,this.2⟩
def TM (Ms:List Mem):MT:=Ms.map fun m=>(m.k,m.ptr)
def PM (Ms:List Mem):List (Option Addr):=Ms.map Mem.ptr
structure FrG (a:Act) (Ll Lm Lo:Ax.Loc) (n i:Int):Prop where
 sz:a.tmps.size=fGr.ntmps
 df:a.defers=[]
 t2:a.tmps.getD 2 undef=rowVal Lo
 t3:a.tmps.getD 3 undef=mapVal Lm
 t9:a.tmps.getD 9 undef=rowVal Ll
 t10:a.tmps.getD 10 undef = .int .i64 n
 t11:a.tmps.getD 11 undef = .int .i64 i
theorem lt49 {t:Nat} (h:t<49):t<fGr.ntmps:=h
def rho3 (a b c:Ax.Loc):Rho:=fun j=>if j=0 then a else if j=1 then b else c
def rho5 (a b c d e:Ax.Loc):Rho:=fun j=>if j=0 then a else if j=1 then b else if j=2 then c else if j=3 then d else e
theorem r10_step {l:List Item} {w W:World} {Ll Lm Lo:Ax.Loc} {T:MT} {ps:List (Option Addr)} {A C:List Mem} {m:Mem} {n i:Int} (G:GInv l w W Ll Lm Lo T ps (A ++ m :: C)) (hlen:m.at'.length≤1000) {a:Act} (hf:FrG a Ll Lm Lo n i) (h4:a.tmps.getD 4 undef = .int .i64 i) (h6:a.tmps.getD 6 undef = .pointer m.ptr)
 {Q:Exit→Act→World→Prop} (hQ:∀ a' W' Lm' Lo' m',m'.k=m.k→m'.at'=m.at' ++ [i]→m'.ptr=m.ptr→GInv l w W' Ll Lm' Lo' T ps (A ++ m' :: C)→FrG a' Ll Lm' Lo' n i→Q .normal a' W'):r10.wp Try.prog Q a W:=by
 have hm:=G.ms m (by simp)
 obtain ⟨ρ,hρ⟩:∃ ρ,ρ=rho5 Ll Lm Lo m.g m.r:=⟨_,rfl⟩
 have e0:ρ 0=Ll:=by rw [hρ];rfl
 have e1:ρ 1=Lm:=by rw [hρ];rfl
 have e2:ρ 2=Lo:=by rw [hρ];rfl
 have e3:ρ 3=m.g:=by rw [hρ];rfl
 have e4:ρ 4=m.r:=by rw [hρ];rfl
 obtain ⟨h,hh⟩:∃ h,h=hH l T ps ++ [(3,boxG m.k (.all 4)),(4,.row tI sI m.at')]:=⟨_,rfl⟩
 have hlk:∀ j o,Ax.look h j=some o→(j=0∧o = .arg sIt l)∨(j=1∧o = .mapo sKy sA T)∨(j=2∧o = .row tGptr sA ps)∨(j=3∧o=boxG m.k (.all 4))∨(j=4∧o = .row tI sI m.at'):=by
  intro j o ho
  rw [hh] at ho
  have h1:=look_in ho
  simp only [hH,List.cons_append,List.nil_append,List.mem_cons,Prod.mk.injEq,List.not_mem_nil,or_false] at h1
  exact h1
 have f3:=hm.2.1 m.g.blk (.inl rfl)
 have f4:m.r.nil=false→w.heap.size≤m.r.blk∧m.r.blk≠Lm.blk∧(Lo.nil=false→m.r.blk≠Lo.blk):=fun hn=>hm.2.1 m.r.blk (.inr ⟨hn,rfl⟩)
 have hr:HR (Sh.BS w) ρ h W:=by
  refine ⟨fun j o ho=>?_,fun j o ho hw hn=>?_,fun j o ho hs hn=>?_,fun j j' o o' ho ho' hw hw' hn hn' hij=>?_⟩
  · rcases hlk j o ho with ⟨rfl,rfl⟩|⟨rfl,rfl⟩|⟨rfl,rfl⟩|⟨rfl,rfl⟩|⟨rfl,rfl⟩
    · rw [e0];exact G.lo ρ
    · rw [e1];exact G.mo ρ
    · rw [e2];exact G.oo ρ
    · rw [e3]
      refine ⟨hm.1.nn,hm.1.of,?_⟩
      have:(denL ρ [vb m.k.1,vi m.k.2,.all 4]).toArray = #[.bool m.k.1,.int .i64 m.k.2,rowVal m.r]:=by
       show (#[_,_,den ρ (.all 4)]:Array Value)=_
       have:den ρ (.all 4)=rowVal m.r:=by rw [← e4];rfl
       rw [this];rfl
      rw [this];exact hm.1.bl
    · rw [e4];exact hm.1.rw' ρ
  · rcases hlk j o ho with ⟨rfl,rfl⟩|⟨rfl,rfl⟩|⟨rfl,rfl⟩|⟨rfl,rfl⟩|⟨rfl,rfl⟩
    · cases hw
    · rw [e1];exact G.mb
    · rw [e2] at hn ⊢;exact (G.ob hn).1
    · rw [e3];exact f3.1
    · rw [e4] at hn ⊢;exact (f4 hn).1
  · rcases hlk j o ho with ⟨rfl,rfl⟩|⟨rfl,rfl⟩|⟨rfl,rfl⟩|⟨rfl,rfl⟩|⟨rfl,rfl⟩
    · rw [e0] at hn ⊢
      have:=G.lb hn
      show ¬ w.heap.size≤_
      omega
    · cases hs
    · cases hs
    · cases hs
    · cases hs
  · have ne:∀ {x y:Nat},x≠y→y≠x:=fun h e=>h e.symm
    rcases hlk j o ho with ⟨rfl,rfl⟩|⟨rfl,rfl⟩|⟨rfl,rfl⟩|⟨rfl,rfl⟩|⟨rfl,rfl⟩<;>rcases hlk j' o' ho' with ⟨rfl,rfl⟩|⟨rfl,rfl⟩|⟨rfl,rfl⟩|⟨rfl,rfl⟩|⟨rfl,rfl⟩ <;>
     first
     | (cases hw;done)
     | (cases hw';done)
     | (exact absurd rfl hij)
     | (simp only [e1,e2,e3,e4] at hn hn' ⊢;first|exact (G.ob hn).2|exact ne (G.ob hn').2|exact f3.2.1|exact ne f3.2.1|exact f3.2.2 hn|exact ne (f3.2.2 hn')|exact f3.2.2 hn'|exact ne (f3.2.2 hn)|exact (f4 hn).2.1|exact ne (f4 hn').2.1|exact (f4 hn).2.2 hn'|exact ne ((f4 hn').2.2 hn)|exact hm.2.2 hn|exact ne (hm.2.2 hn'))
 have hE:Sound (eff Try.prog CGr) Try.prog (Bn ρ h W) ⟨W,ρ,4,[]⟩ fGr.ntmps:=eff_sound (CGr_ok _)
 have hR:R (Bn ρ h W) ⟨W,ρ,4,[]⟩ fGr.ntmps (sgE l T ps n i m.k m.at') ρ a W:=by
  refine ⟨hf.sz,hf.df,fun t s hs=>?_,by show HR _ _ (hH l T ps ++ _) _;rw [← hh];exact hr.narrow,fun b hb=>.inl hb,Keeps.refl _ _,fun j hj=>rfl⟩
  have h1:=look_in hs
  simp only [sgE,List.mem_cons,Prod.mk.injEq,List.not_mem_nil,or_false] at h1
  rcases h1 with ⟨rfl,rfl⟩|⟨rfl,rfl⟩|⟨rfl,rfl⟩|⟨rfl,rfl⟩|⟨rfl,rfl⟩|⟨rfl,rfl⟩|⟨rfl,rfl⟩
  · exact ⟨lt49 (by decide),by rw [hf.t2,← e2];rfl⟩
  · exact ⟨lt49 (by decide),by rw [hf.t3,← e1];rfl⟩
  · exact ⟨lt49 (by decide),h4⟩
  · refine ⟨lt49 (by decide),?_⟩
    rw [h6]
    simp only [den,e3,hm.1.of,Nat.add_zero];rfl
  · exact ⟨lt49 (by decide),by rw [hf.t9,← e0];rfl⟩
  · exact ⟨lt49 (by decide),hf.t10⟩
  · exact ⟨lt49 (by decide),hf.t11⟩
 have hev:evG [2,3,6,9,10,11] 4 r10 (sgE l T ps n i m.k m.at')=some (sgK l T ps n i m.k (m.at' ++ [i])):=by
  rw [g10_eq]
  unfold moreP
  rw [Nat.ble_eq_true_of_le (by omega),sel_true]
 refine chunk (F:=1) (S:=[2,3,6,9,10,11]) (p:=4) Sh.mixed hE (Sh.cn0_ok _ _ _) (Nat.le_refl _) hev (wf_chk rfl (by decide:4≤7)) hR (fun ρ' a' W' hw' hR'=>?_)
 have hr':=hR'.hr
 have hks:=hR'.ks
 have p0:ρ' 0=Ll:=(hR'.pn 0 (show 0<4 by decide)).trans e0
 have p1:ρ' 1=Lm:=(hR'.pn 1 (show 1<4 by decide)).trans e1
 have p2:ρ' 2=Lo:=(hR'.pn 2 (show 2<4 by decide)).trans e2
 have p3:ρ' 3=m.g:=(hR'.pn 3 (show 3<4 by decide)).trans e3
 obtain ⟨m',hm'⟩:∃ m':Mem,m'=⟨m.g,ρ' 4,m.k,m.at' ++ [i]⟩:=⟨_,rfl⟩
 have k3:=hr'.ok 3 (boxG m.k (.all 4)) rfl
 have k4:=hr'.ok 4 (.row tI sI (m.at' ++ [i])) rfl
 have hpw:=List.pairwise_append.1 G.pw
 have hpc:=List.pairwise_cons.1 hpw.2.1
 -- the other groups' blocks are none of those that are named
 have far:∀ x∈A ++ C,∀ b,x.Fp b→¬ m.Fp b:=by
  intro x hx b hb hb'
  rcases List.mem_append.1 hx with hx|hx
  · exact hpw.2.2 x hx m (by simp) b hb hb'
  · exact hpc.1 x hx b hb' hb
 have hsub:∀ x∈A ++ C,x.Ok W∧(∀ b,x.Fp b→w.heap.size≤b∧∀ j o,Ax.look h j=some o→o.own=true→(ρ j).nil=false→b≠(ρ j).blk)∧(x.r.nil=false→x.r.blk≠x.g.blk):=by
  intro x hx
  have hx1:=G.ms x (by rcases List.mem_append.1 hx with hx|hx<;>simp [hx])
  refine ⟨hx1.1,fun b hb=>⟨(hx1.2.1 b hb).1,fun j o ho hw hn=>?_⟩,hx1.2.2⟩
  rcases hlk j o ho with ⟨rfl,rfl⟩|⟨rfl,rfl⟩|⟨rfl,rfl⟩|⟨rfl,rfl⟩|⟨rfl,rfl⟩
  · cases hw
  · rw [e1];exact (hx1.2.1 b hb).2.1
  · rw [e2] at hn ⊢;exact (hx1.2.1 b hb).2.2 hn
  · rw [e3];exact fun e=>far x hx b hb (.inl e)
  · rw [e4] at hn ⊢;exact fun e=>far x hx b hb (.inr ⟨hn,e⟩)
 have hpw2:(A ++ C).Pairwise fun a b=>∀ x,a.Fp x→¬ b.Fp x:=List.pairwise_append.2 ⟨hpw.1,hpc.2,fun x hx y hy=>hpw.2.2 x hx y (by simp [hy])⟩
 have hrB:HR (Bn ρ h W) ρ' (sgK l T ps n i m.k (m.at' ++ [i])).hp W':=hr'
 have G2:=G.after (T':=T) (ps':=ps) (Ms':=A ++ C) hr hrB hks rfl p0 rfl rfl hsub hpw2
 have up:∀ b,W.heap.size≤b→Sh.BS w b:=fun b hb=>Nat.le_trans G.ks.size hb
 have hBn:=Bn.sub hr up
 have b4:(ρ' 4).nil=false→Bn ρ h W (ρ' 4).blk:=fun hn=>hrB.inB 4 _ rfl rfl hn
 have b3:Bn ρ h W (ρ' 3).blk:=hrB.inB 3 _ rfl rfl k3.1
 have farN:∀ x∈A ++ C,∀ b,x.Fp b→¬ Bn ρ h W b:=by
  intro x hx b hb hB
  have:=(hsub x hx).1.lt b hb
  rcases hB with hB|⟨j,o,ho,hw,hn,rfl⟩
  · omega
  · exact ((hsub x hx).2.1 _ hb).2 j o ho hw hn rfl
 have fpm:∀ b,m'.Fp b→Bn ρ h W b:=by
  rintro b (hb|⟨hn,hb⟩)
  · rw [hb,hm'];rw [p3] at b3;exact b3
  · rw [hb,hm'];rw [hm'] at hn;exact b4 hn
 have mk:m'.Ok W'∧(∀ b,m'.Fp b→w.heap.size≤b∧b≠(ρ' 1).blk∧((ρ' 2).nil=false→b≠(ρ' 2).blk))∧(m'.r.nil=false→m'.r.blk≠m'.g.blk):=by
  have o1:=hr'.ok 1 (.mapo sKy sA T) rfl
  refine ⟨?_,fun b hb=>?_,fun hn=>?_⟩
  · rw [hm']
    refine ⟨hm.1.nn,hm.1.of,?_,fun ρ2=>k4⟩
    have k33:=k3.2.2
    rw [p3] at k33
    exact k33
  · refine ⟨hBn b (fpm b hb),?_,fun hn2=>?_⟩
    · rcases hb with hb|⟨hn,hb⟩
      · rw [hb,hm',← p3];exact hrB.inj 3 1 _ _ rfl rfl rfl rfl k3.1 o1.1 (by decide)
      · rw [hb,hm'];rw [hm'] at hn;exact hrB.inj 4 1 _ _ rfl rfl rfl rfl hn o1.1 (by decide)
    · rcases hb with hb|⟨hn,hb⟩
      · rw [hb,hm',← p3];exact hrB.inj 3 2 _ _ rfl rfl rfl rfl k3.1 hn2 (by decide)
      · rw [hb,hm'];rw [hm'] at hn;exact hrB.inj 4 2 _ _ rfl rfl rfl rfl hn hn2 (by decide)
  · rw [hm'] at hn ⊢
    show (ρ' 4).blk≠m.g.blk
    rw [← p3];exact hrB.inj 4 3 _ _ rfl rfl rfl rfl hn k3.1 (by decide)
 have G3:GInv l w W' Ll (ρ' 1) (ρ' 2) T ps (A ++ m' :: C):=by
  refine ⟨G2.ks,G2.lo,G2.lb,G2.mo,G2.mb,G2.oo,G2.ob,fun x hx=>?_,?_⟩
  · rcases List.mem_append.1 hx with hx|hx
    · exact G2.ms x (by simp [hx])
    · rcases List.mem_cons.1 hx with rfl|hx
      · exact mk
      · exact G2.ms x (by simp [hx])
  · refine List.pairwise_append.2 ⟨hpw.1,List.pairwise_cons.2 ⟨fun y hy b hb hb'=>farN y (by simp [hy]) b hb' (fpm b hb),hpc.2⟩,fun x hx y hy b hb hb'=>?_⟩
    rcases List.mem_cons.1 hy with rfl|hy
    · exact farN x (by simp [hx]) b hb (fpm b hb')
    · exact hpw.2.2 x hx y (by simp [hy]) b hb hb'
 refine hQ a' W' (ρ' 1) (ρ' 2) m' (by rw [hm']) (by rw [hm']) (by rw [hm'];rfl) G3 ⟨hR'.sz,hR'.df,(hR'.sl 2 (.all 2) rfl).2,(hR'.sl 3 (.map 1) rfl).2,?_,(hR'.sl 10 (vi n) rfl).2,(hR'.sl 11 (vi i) rfl).2⟩
 have:=(hR'.sl 9 (.all 0) rfl).2
 rw [this,← p0];rfl
end Go.Proofs.Ytlfkfajodnkkhaa.Iv
namespace Go.Proofs.Ytlfkfajodnkkhaa.Iv
open Go Go.RowKit Go.Proofs.YtlfkfajodnkkhaaW.PrintWords Go.Proofs.Ytlfkfajodnkkhaa.Ax Go.Proofs.Ytlfkfajodnkkhaa.Sh
set_option linter.unusedVariables false
set_option linter.unusedSimpArgs false
section
variable {l:List Item} {w W:World} {Ll Lm Lo:Ax.Loc} {T:MT} {ps:List (Option Addr)} {Ms:List Mem} {n i:Int}
abbrev B3 (Ll Lm Lo:Ax.Loc) (l:List Item) (T:MT) (ps:List (Option Addr)) (W:World):Nat→Prop:=Bn (rho3 Ll Lm Lo) (hH l T ps) W
abbrev W3b (Ll Lm Lo:Ax.Loc) (W:World):Base:=⟨W,rho3 Ll Lm Lo,2,[]⟩
theorem GInv.toR (G:GInv l w W Ll Lm Lo T ps Ms) {a:Act} (hf:FrG a Ll Lm Lo n i):R (B3 Ll Lm Lo l T ps W) (W3b Ll Lm Lo W) fGr.ntmps (sgH l T ps n i) (rho3 Ll Lm Lo) a W:=by
 refine ⟨hf.sz,hf.df,fun t s hs=>?_,(G.hr (rho3 Ll Lm Lo) rfl rfl rfl).narrow,fun b hb=>.inl hb,Keeps.refl _ _,fun j hj=>rfl⟩
 have h1:=look_in hs
 simp only [sgH,List.mem_cons,Prod.mk.injEq,List.not_mem_nil,or_false] at h1
 rcases h1 with ⟨rfl,rfl⟩|⟨rfl,rfl⟩|⟨rfl,rfl⟩|⟨rfl,rfl⟩|⟨rfl,rfl⟩
 · exact ⟨lt49 (by decide),hf.t2⟩
 · exact ⟨lt49 (by decide),hf.t3⟩
 · exact ⟨lt49 (by decide),hf.t9⟩
 · exact ⟨lt49 (by decide),hf.t10⟩
 · exact ⟨lt49 (by decide),hf.t11⟩
theorem GInv.out3 (G:GInv l w W Ll Lm Lo T ps Ms):∀ m∈Ms,m.Ok W∧(∀ b,m.Fp b→w.heap.size≤b∧∀ j o,Ax.look (hH l T ps) j=some o→o.own=true→(rho3 Ll Lm Lo j).nil=false→b≠(rho3 Ll Lm Lo j).blk)∧(m.r.nil=false→m.r.blk≠m.g.blk):=by
 intro m hm
 have h:=G.ms m hm
 refine ⟨h.1,fun b hb=>⟨(h.2.1 b hb).1,fun j o ho hw hn=>?_⟩,h.2.2⟩
 rcases look_H ho with ⟨rfl,rfl⟩|⟨rfl,rfl⟩|⟨rfl,rfl⟩
 · cases hw
 · exact (h.2.1 b hb).2.1
 · exact (h.2.1 b hb).2.2 hn
theorem GInv.next (G:GInv l w W Ll Lm Lo T ps Ms) {σ':St} {ρ':Rho} {a':Act} {W':World} {T':MT} {ps':List (Option Addr)} (hR:R (B3 Ll Lm Lo l T ps W) (W3b Ll Lm Lo W) fGr.ntmps σ' ρ' a' W') (h0:Ax.look σ'.hp 0=some (.arg sIt l)) (h1:Ax.look σ'.hp 1=some (.mapo sKy sA T')) (h2:Ax.look σ'.hp 2=some (.row tGptr sA ps')) :
 GInv l w W' Ll (ρ' 1) (ρ' 2) T' ps' Ms :=
 G.after (G.hr (rho3 Ll Lm Lo) rfl rfl rfl) hR.hr hR.ks h0 (hR.pn 0 (show 0<2 by decide)) h1 h2 G.out3 G.pw
theorem frG_of {B:Nat→Prop} {b0:Base} {σ':St} {ρ':Rho} {a':Act} {W':World} (hR:R B b0 fGr.ntmps σ' ρ' a' W') (e0:ρ' 0=Ll) (h2:Ax.look σ'.sl 2=some (.all 2)) (h3:Ax.look σ'.sl 3=some (.map 1)) (h9:Ax.look σ'.sl 9=some (.all 0)) (h10:Ax.look σ'.sl 10=some (vi n)) (h11:Ax.look σ'.sl 11=some (vi i)) (hd:b0.dfs=[]):FrG a' Ll (ρ' 1) (ρ' 2) n i:=by
 refine ⟨hR.sz,hR.df.trans hd,(hR.sl 2 _ h2).2,(hR.sl 3 _ h3).2,?_,(hR.sl 10 _ h10).2,(hR.sl 11 _ h11).2⟩
 have:=(hR.sl 9 _ h9).2
 rw [this,← e0];rfl
theorem wfH (l:List Item) (T:MT) (ps:List (Option Addr)) (n i:Int):Wf 2 (sgH l T ps n i):=wf_chk rfl (by decide:2≤5)
theorem r11_step (G:GInv l w W Ll Lm Lo T ps Ms) {a:Act} (hf:FrG a Ll Lm Lo n i) (h0:0≤i) (h1:i≤100000) {Q:Exit→Act→World→Prop} (hQ:∀ a' W' Lm' Lo',GInv l w W' Ll Lm' Lo' T ps Ms→FrG a' Ll Lm' Lo' n (i+1)→Q .normal a' W'):r11.wp Try.prog Q a W:=by
 have hE:Sound (eff Try.prog CGr) Try.prog (B3 Ll Lm Lo l T ps W) (W3b Ll Lm Lo W) fGr.ntmps:=eff_sound (CGr_ok _)
 have hi:Sh.IT.wrap (i+1)=i+1:=by
  show IntKind.i64.wrap _=_
  rw [IntKind.wrap_i64];omega
 have hev:evG [2,3,9,10,11] 2 r11 (sgH l T ps n i)=some (sgH l T ps n (i+1)):=by rw [g11_eq,hi]
 refine chunk (F:=1) (S:=[2,3,9,10,11]) (p:=2) Sh.mixed hE (Sh.cn0_ok _ _ _) (Nat.le_refl _) hev (wfH l T ps n i) (G.toR hf) (fun ρ' a' W' hw' hR'=>?_)
 exact hQ a' W' (ρ' 1) (ρ' 2) (G.next hR' rfl rfl rfl) (frG_of hR' (hR'.pn 0 (show 0<2 by decide)) rfl rfl rfl rfl rfl rfl)
theorem GInv.snoc (G:GInv l w W Ll Lm Lo T ps Ms) {m:Mem} (h1:m.Ok W) (h2:∀ b,m.Fp b→w.heap.size≤b∧b≠Lm.blk∧(Lo.nil=false→b≠Lo.blk)) (h3:m.r.nil=false→m.r.blk≠m.g.blk) (h4:∀ x∈Ms,∀ b,x.Fp b→¬ m.Fp b):GInv l w W Ll Lm Lo T ps (Ms ++ [m]):=by
 refine ⟨G.ks,G.lo,G.lb,G.mo,G.mb,G.oo,G.ob,fun x hx=>?_,List.pairwise_append.2 ⟨G.pw,by simp,fun x hx y hy b hb=>?_⟩⟩
 · rcases List.mem_append.1 hx with hx|hx
   · exact G.ms x hx
   · obtain rfl:=List.mem_singleton.1 hx;exact ⟨h1,h2,h3⟩
 · obtain rfl:=List.mem_singleton.1 hy;exact h4 x hx b hb
end
theorem r89_step {l:List Item} {w W:World} {Ll Lm Lo Lb:Ax.Loc} {T:MT} {ps:List (Option Addr)} {Ms:List Mem} {n i:Int} {x:Item} {q:Option Addr} (G:GInv l w W Ll Lm Lo T ps Ms) (hb:∀ ρ,OK ρ W Lb (boxI x)) (hb1:w.heap.size≤Lb.blk∧Lb.blk≠Lm.blk∧(Lo.nil=false→Lb.blk≠Lo.blk)) (hb2:∀ m∈Ms,∀ b,m.Fp b→b≠Lb.blk)
 (hnd:(T.map (·.1)).Nodup) (hnew:fnd (keyI x) T=none) (hlen:ps.length≤1000) {a:Act} (hf:FrG a Ll Lm Lo n i) (h4:a.tmps.getD 4 undef = .int .i64 i) (h5:a.tmps.getD 5 undef=den (fun _=>Lb) (.ptr 0 0)) (h6:a.tmps.getD 6 undef = .pointer q)
 {Q:Exit→Act→World→Prop} (hQ:∀ a' W' Lm' Lo',GInv l w W' Ll Lm' Lo' (T ++ [(keyI x,q)]) (ps ++ [q]) Ms→FrG a' Ll Lm' Lo' n i→a'.tmps.getD 4 undef = .int .i64 i→a'.tmps.getD 6 undef = .pointer q→Q .normal a' W'):r89.wp Try.prog Q a W:=by
 obtain ⟨ρ,hρ⟩:∃ ρ,ρ=rho5 Ll Lm Lo Lb Lb:=⟨_,rfl⟩
 have e0:ρ 0=Ll:=by rw [hρ];rfl
 have e1:ρ 1=Lm:=by rw [hρ];rfl
 have e2:ρ 2=Lo:=by rw [hρ];rfl
 have e3:ρ 3=Lb:=by rw [hρ];rfl
 obtain ⟨h,hh⟩:∃ h,h=hH l T ps ++ [(3,boxI x)]:=⟨_,rfl⟩
 have hlk:∀ j o,Ax.look h j=some o→(j=0∧o = .arg sIt l)∨(j=1∧o = .mapo sKy sA T)∨(j=2∧o = .row tGptr sA ps)∨(j=3∧o=boxI x):=by
  intro j o ho
  rw [hh] at ho
  have h1:=look_in ho
  simp only [hH,List.cons_append,List.nil_append,List.mem_cons,Prod.mk.injEq,List.not_mem_nil,or_false] at h1
  exact h1
 have hr:HR (Sh.BS w) ρ h W:=by
  refine ⟨fun j o ho=>?_,fun j o ho hw hn=>?_,fun j o ho hs hn=>?_,fun j j' o o' ho ho' hw hw' hn hn' hij=>?_⟩
  · rcases hlk j o ho with ⟨rfl,rfl⟩|⟨rfl,rfl⟩|⟨rfl,rfl⟩|⟨rfl,rfl⟩
    · rw [e0];exact G.lo ρ
    · rw [e1];exact G.mo ρ
    · rw [e2];exact G.oo ρ
    · rw [e3];exact hb ρ
  · rcases hlk j o ho with ⟨rfl,rfl⟩|⟨rfl,rfl⟩|⟨rfl,rfl⟩|⟨rfl,rfl⟩
    · cases hw
    · rw [e1];exact G.mb
    · rw [e2] at hn ⊢;exact (G.ob hn).1
    · rw [e3];exact hb1.1
  · rcases hlk j o ho with ⟨rfl,rfl⟩|⟨rfl,rfl⟩|⟨rfl,rfl⟩|⟨rfl,rfl⟩
    · rw [e0] at hn ⊢
      have:=G.lb hn
      show ¬ w.heap.size≤_
      omega
    · cases hs
    · cases hs
    · cases hs
  · have ne:∀ {x y:Nat},x≠y→y≠x:=fun h e=>h e.symm
    rcases hlk j o ho with ⟨rfl,rfl⟩|⟨rfl,rfl⟩|⟨rfl,rfl⟩|⟨rfl,rfl⟩<;>rcases hlk j' o' ho' with ⟨rfl,rfl⟩|⟨rfl,rfl⟩|⟨rfl,rfl⟩|⟨rfl,rfl⟩ <;>
     first
     | (cases hw;done)
     | (cases hw';done)
     | (exact absurd rfl hij)
     | (simp only [e1,e2,e3] at hn hn' ⊢;first|exact (G.ob hn).2|exact ne (G.ob hn').2|exact hb1.2.1|exact ne hb1.2.1|exact hb1.2.2 hn|exact ne (hb1.2.2 hn')|exact hb1.2.2 hn'|exact ne (hb1.2.2 hn))
 have hE:Sound (eff Try.prog CGr) Try.prog (Bn ρ h W) ⟨W,ρ,2,[]⟩ fGr.ntmps:=eff_sound (CGr_ok _)
 have hR:R (Bn ρ h W) ⟨W,ρ,2,[]⟩ fGr.ntmps (sgD l T ps n i x q) ρ a W:=by
  refine ⟨hf.sz,hf.df,fun t s hs=>?_,by show HR _ _ (hH l T ps ++ _) _;rw [← hh];exact hr.narrow,fun b hb=>.inl hb,Keeps.refl _ _,fun j hj=>rfl⟩
  have h1:=look_in hs
  simp only [sgD,List.mem_cons,Prod.mk.injEq,List.not_mem_nil,or_false] at h1
  rcases h1 with ⟨rfl,rfl⟩|⟨rfl,rfl⟩|⟨rfl,rfl⟩|⟨rfl,rfl⟩|⟨rfl,rfl⟩|⟨rfl,rfl⟩|⟨rfl,rfl⟩|⟨rfl,rfl⟩
  · exact ⟨lt49 (by decide),by rw [hf.t2,← e2];rfl⟩
  · exact ⟨lt49 (by decide),by rw [hf.t3,← e1];rfl⟩
  · exact ⟨lt49 (by decide),h4⟩
  · exact ⟨lt49 (by decide),by rw [h5,← e3];rfl⟩
  · exact ⟨lt49 (by decide),h6⟩
  · exact ⟨lt49 (by decide),by rw [hf.t9,← e0];rfl⟩
  · exact ⟨lt49 (by decide),hf.t10⟩
  · exact ⟨lt49 (by decide),hf.t11⟩
 have hev:evG [2,3,4,6,9,10,11] 2 r89 (sgD l T ps n i x q)=some (sgF l (T ++ [(keyI x,q)]) (ps ++ [q]) n i q):=by
  rw [g89_eq,okK_iv _ hnd,fdK_iv,hnew]
  unfold moreP
  rw [Nat.ble_eq_true_of_le (by omega)];rfl
 refine chunk (F:=1) (S:=[2,3,4,6,9,10,11]) (p:=2) Sh.mixed hE (Sh.cn0_ok _ _ _) (Nat.le_refl _) hev (wf_chk rfl (by decide:2≤6)) hR (fun ρ' a' W' hw' hR'=>?_)
 have p0:ρ' 0=Ll:=(hR'.pn 0 (show 0<2 by decide)).trans e0
 have G2:=G.after (T':=T ++ [(keyI x,q)]) (ps':=ps ++ [q]) (Ms':=Ms) hr hR'.hr hR'.ks rfl p0 rfl rfl (fun m hm=>by
  have hx1:=G.ms m hm
  refine ⟨hx1.1,fun b hb=>⟨(hx1.2.1 b hb).1,fun j o ho hw hn=>?_⟩,hx1.2.2⟩
  rcases hlk j o ho with ⟨rfl,rfl⟩|⟨rfl,rfl⟩|⟨rfl,rfl⟩|⟨rfl,rfl⟩
  · cases hw
  · rw [e1];exact (hx1.2.1 b hb).2.1
  · rw [e2] at hn ⊢;exact (hx1.2.1 b hb).2.2 hn
  · rw [e3];exact hb2 m hm b hb) G.pw
 exact hQ a' W' (ρ' 1) (ρ' 2) G2 (frG_of hR' p0 rfl rfl rfl rfl rfl rfl) (hR'.sl 4 (vi i) rfl).2 (hR'.sl 6 (.v (.pointer q)) rfl).2
end Go.Proofs.Ytlfkfajodnkkhaa.Iv
namespace Go.Proofs.Ytlfkfajodnkkhaa.Iv
open Go Go.RowKit Go.Proofs.YtlfkfajodnkkhaaW.PrintWords Go.Proofs.Ytlfkfajodnkkhaa.Ax Go.Proofs.Ytlfkfajodnkkhaa.Sh
set_option linter.unusedVariables false
set_option linter.unusedSimpArgs false
theorem TM_keys (Ms:List Mem):(TM Ms).map (·.1)=Ms.map Mem.k:=by unfold TM;rw [List.map_map];rfl
theorem fnd_cons (k:Key) (m:Mem) (Ms:List Mem):fnd k (TM (m :: Ms))=if m.k=k then some m.ptr else fnd k (TM Ms):=by
 show ((List.find? (fun p:Key × Option Addr=>keyEq k p.1) ((m.k,m.ptr) :: TM Ms)).map fun p=>p.2)=_
 rw [List.find?_cons]
 by_cases e:m.k=k
 · rw [if_pos e,show keyEq k (m.k,m.ptr).1=true from (keyEq_iff _ _).2 e.symm];rfl
 · rw [if_neg e]
   have:keyEq k (m.k,m.ptr).1=false:=by
    cases h:keyEq k (m.k,m.ptr).1 with
    | false=>rfl
    | true=>exact absurd ((keyEq_iff _ _).1 h).symm e
   rw [this];rfl
theorem find_split (k:Key):∀ Ms:List Mem,(∃ A m C,Ms=A ++ m :: C∧m.k=k∧fnd k (TM Ms)=some m.ptr∧k∉A.map Mem.k)∨(fnd k (TM Ms)=none∧k∉Ms.map Mem.k)
 | []=>.inr ⟨rfl,by simp⟩
 | m :: Ms=>by
  rw [fnd_cons]
  by_cases e:m.k=k
  · exact .inl ⟨[],m,Ms,rfl,e,if_pos e,by simp⟩
  · rw [if_neg e]
    rcases find_split k Ms with ⟨A,x,C,rfl,h1,h2,h3⟩|⟨h1,h2⟩
    · exact .inl ⟨m :: A,x,C,rfl,h1,h2,by rw [List.map_cons,List.mem_cons,not_or];exact ⟨fun h=>e h.symm,h3⟩⟩
    · exact .inr ⟨h1,by rw [List.map_cons,List.mem_cons,not_or];exact ⟨fun h=>e h.symm,h2⟩⟩
structure GSt (l:List Item) (w W:World) (Ll Lm Lo:Ax.Loc) (Ms:List Mem) (i:Int):Prop where
 G:GInv l w W Ll Lm Lo (TM Ms) (PM Ms) Ms
 nd:(Ms.map Mem.k).Nodup
 hat:∀ m∈Ms,(m.at'.length:Int)≤i
 hml:(Ms.length:Int)≤i
theorem gr_round {l:List Item} {w W:World} {Ll Lm Lo:Ax.Loc} {Ms:List Mem} {i:Int} (hl:l.length≤1000) (S:GSt l w W Ll Lm Lo Ms i) {a:Act} (hf:FrG a Ll Lm Lo (l.length:Int) i) (h0:0≤i) {Q:Exit→Act→World→Prop}
 (hdone:¬ i<(l.length:Int)→∀ a' W' Lm' Lo',GSt l w W' Ll Lm' Lo' Ms i→FrG a' Ll Lm' Lo' (l.length:Int) i→Q (.exit 0) a' W')
 (hmore:i<(l.length:Int)→∀ a' W' Lm' Lo' Ms',GSt l w W' Ll Lm' Lo' Ms' (i+1)→Ms'.map Mem.gv=addG i (keyI (rIt l i)) (Ms.map Mem.gv)→FrG a' Ll Lm' Lo' (l.length:Int) (i+1)→Q .normal a' W'):gL.wp Try.prog Q a W:=by
 obtain ⟨n,hn⟩:∃ n,n=(l.length:Int):=⟨_,rfl⟩
 rw [← hn] at hf hdone hmore
 have G:=S.G
 have hE:Sound (eff Try.prog CGr) Try.prog (B3 Ll Lm Lo l (TM Ms) (PM Ms) W) (W3b Ll Lm Lo W) fGr.ntmps:=eff_sound (CGr_ok _)
 rw [gL_code]
 refine wp_seq (chunk (F:=1) (S:=[2,3,9,10,11,12]) (p:=2) Sh.mixed hE (Sh.cn0_ok _ _ _) (Nat.le_refl _) (g3_eq l (TM Ms) (PM Ms) n i) (wfH l (TM Ms) (PM Ms) n i) (G.toR hf) fun ρ1 a1 w1 hw1 hR1=>?_)
 have h12:=hR1.eval (.tmp 12) (vb (decide (i<n))) rfl
 by_cases hi:i<n
 · have h12:a1.eval (.tmp 12) = .bool true:=by rw [h12,decide_eq_true hi];rfl
   refine wp_seq (wp_cond_true h12 (wp_skip ?_))
   refine wp_seq (wp_block ?_)
   show (spineC [r4,r5] (.seq (.seq r6 (.cond (.tmp 24) (.seq r7 r89) .skip)) r10)).wp _ _ _ _
   have hx:Sh.idxP l i (sel (okK (keyI (rIt l i)) (TM Ms)) (some (sgA l (TM Ms) (PM Ms) n i (rIt l i) ((fdK (keyI (rIt l i)) (TM Ms)).getD none) (fdK (keyI (rIt l i)) (TM Ms)).isSome)) none) =
    some (sgA l (TM Ms) (PM Ms) n i (rIt l i) ((fnd (keyI (rIt l i)) (TM Ms)).getD none) (fnd (keyI (rIt l i)) (TM Ms)).isSome):=by
    rw [idxG l i h0 (by omega),okK_iv _ (by rw [TM_keys];exact S.nd),fdK_iv];rfl
   obtain ⟨x,hxx⟩:∃ x,x=rIt l i:=⟨_,rfl⟩
   refine spineC_run Sh.mixed hE (Sh.cn0_ok _ _ _) (p:=2) (S:=[2,3,4,5,6,7,9,10,11]) (Nat.le_refl _) (fun ρ2 a2 w2 hw2 hR2=>?_) [r4,r5] _ ((g45_eq l (TM Ms) (PM Ms) n i).trans hx) ρ1 a1 w1 hw1 hR1
   rw [← hxx] at hw2 hR2 hmore
   refine wp_seq (wp_seq (chunk (F:=1) (S:=[2,3,4,5,6,9,10,11,24]) (p:=2) Sh.mixed hE (Sh.cn0_ok _ _ _) (Nat.le_refl _) (g6_eq l (TM Ms) (PM Ms) n i x _ _) hw2 hR2 fun ρ3 a3 w3 hw3 hR3=>?_))
   have h24:=hR3.eval (.tmp 24) (vb (!(fnd (keyI x) (TM Ms)).isSome)) rfl
   have pin3:ρ3 0=Ll:=hR3.pn 0 (show 0<2 by decide)
   have G3:=G.next hR3 rfl rfl rfl
   have F3:FrG a3 Ll (ρ3 1) (ρ3 2) n i:=frG_of hR3 pin3 rfl rfl rfl rfl rfl rfl
   have hcont:∀ A m C a' W' Lm' Lo' (T:MT) (ps:List (Option Addr)),GInv l w W' Ll Lm' Lo' T ps (A ++ m :: C)→m.k=keyI x→(m.at'.length:Int)≤i→(∀ y∈A ++ C,(y.at'.length:Int)≤i)→((A ++ C).length+1:Int)≤i+1→((A ++ m :: C).map Mem.k).Nodup→keyI x∉A.map Mem.k→
    T=TM (A ++ m :: C)→ps=PM (A ++ m :: C)→(A ++ C=Ms∧C=[]∧m.at'=[]∧keyI x∉Ms.map Mem.k∨A ++ m :: C=Ms)→FrG a' Ll Lm' Lo' n i→a'.tmps.getD 4 undef = .int .i64 i→a'.tmps.getD 6 undef = .pointer m.ptr→
    r10.wp Try.prog (Exit.inBlock 1 (Exit.then (fun a w=>r11.wp Try.prog Q a w) Q)) a' W':=by
    intro A m C a' W' Lm' Lo' T ps hG hk hlm hla hlen hnd hA hT hps hor hF h4 h6
    refine r10_step hG (by omega) hF h4 h6 fun a4 W4 Lm4 Lo4 m' e1 e2 e3 G4 F4=>?_
    show r11.wp _ _ _ _
    refine r11_step G4 F4 h0 (by omega) fun a5 W5 Lm5 Lo5 G5 F5=>?_
    have eT:T=TM (A ++ m' :: C):=by rw [hT];unfold TM;simp only [List.map_append,List.map_cons,e1,e3]
    have eP:ps=PM (A ++ m' :: C):=by rw [hps];unfold PM;simp only [List.map_append,List.map_cons,e3]
    rw [eT,eP] at G5
    refine hmore hi a5 W5 Lm5 Lo5 (A ++ m' :: C) ⟨G5,?_,fun y hy=>?_,?_⟩ ?_ F5
    · simp only [List.map_append,List.map_cons,e1] at hnd ⊢;exact hnd
    · rcases List.mem_append.1 hy with hy|hy
      · have:=hla y (by simp [hy]);omega
      · rcases List.mem_cons.1 hy with rfl|hy
        · rw [e2,List.length_append,List.length_singleton];omega
        · have:=hla y (by simp [hy]);omega
    · rw [List.length_append,List.length_cons]
      rw [List.length_append] at hlen
      omega
    · rcases hor with ⟨h1,h2,h3,h4⟩|h1
      · subst h2
        rw [List.append_nil] at h1
        subst h1
        rw [addG_new i (keyI x) (A.map Mem.gv) (by rw [List.map_map];exact h4),List.map_append]
        show _ ++ [(m'.k,m'.at')]=_
        rw [e1,e2,h3,hk];rfl
      · rw [← h1,List.map_append,List.map_cons,List.map_append,List.map_cons]
        show _ ++ (m'.k,m'.at') :: _=addG i (keyI x) (_ ++ (m.k,m.at') :: _)
        rw [hk,addG_old i (keyI x) m.at' _ _ (by rw [List.map_map];exact hA),e1,e2,hk]
   rcases find_split (keyI x) Ms with ⟨A,m,C,hMs,hk,hfnd,hA⟩|⟨hfnd,hnew⟩
   · rw [hfnd] at h24 hR3
     refine wp_cond_false h24 (wp_skip ?_)
     show r10.wp _ _ _ _
     have hlen:=S.hml
     rw [hMs,List.length_append,List.length_cons] at hlen
     rw [hMs] at G3
     refine hcont A m C a3 w3 (ρ3 1) (ρ3 2) _ _ G3 hk (S.hat m (by rw [hMs];simp)) (fun y hy=>S.hat y (by rw [hMs];rcases List.mem_append.1 hy with hy|hy<;>simp [hy])) (by rw [List.length_append];omega) (by have:=S.nd;rw [hMs] at this;exact this) hA rfl rfl (.inr hMs.symm) F3 (hR3.sl 4 (vi i) rfl).2 (hR3.sl 6 (.v (.pointer m.ptr)) rfl).2
   · rw [hfnd] at h24 hR3 hw3
     refine wp_cond_true h24 ?_
     refine wp_seq (chunk (F:=1) (S:=[2,3,4,5,6,9,10,11]) (p:=2) Sh.mixed hE (Sh.cn0_ok _ _ _) (Nat.le_refl _) (g7_eq l (TM Ms) (PM Ms) n i x _ _) hw3 hR3 fun ρ4 a4 w4 hw4 hR4=>?_)
     have pin4:ρ4 0=Ll:=hR4.pn 0 (show 0<2 by decide)
     have G4:=G.next hR4 rfl rfl rfl
     have F4:FrG a4 Ll (ρ4 1) (ρ4 2) n i:=frG_of hR4 pin4 rfl rfl rfl rfl rfl rfl
     have hr4:=hR4.hr
     have k1:=hr4.ok 1 (.mapo sKy sA (TM Ms)) rfl
     have k3:=hr4.ok 3 (boxI x) rfl
     have k4:=hr4.ok 4 (boxG (keyI x) (.v (.slice none 0 0))) rfl
     have up:∀ b,W.heap.size≤b→Sh.BS w b:=fun b hb=>Nat.le_trans G.ks.size hb
     have hBn:=Bn.sub (G.hr (rho3 Ll Lm Lo) rfl rfl rfl) up
     have b3:=hr4.inB 3 (boxI x) rfl rfl k3.1
     have b4:=hr4.inB 4 (boxG (keyI x) (.v (.slice none 0 0))) rfl rfl k4.1
     have farN:∀ y∈Ms,∀ b,y.Fp b→¬ B3 Ll Lm Lo l (TM Ms) (PM Ms) W b:=by
      intro y hy b hb hB
      have hy1:=G.out3 y hy
      have:=hy1.1.lt b hb
      rcases hB with hB|⟨j,o,ho,hw,hn',rfl⟩
      · omega
      · exact (hy1.2.1 _ hb).2 j o ho hw hn' rfl
     obtain ⟨mn,hmn⟩:∃ mn:Mem,mn=⟨ρ4 4,nilL,keyI x,[]⟩:=⟨_,rfl⟩
     have fpn:∀ b,mn.Fp b→b=(ρ4 4).blk:=by
      rintro b (hb|⟨hn',_⟩)
      · rw [hb,hmn]
      · rw [hmn] at hn';cases hn'
     have G5:GInv l w w4 Ll (ρ4 1) (ρ4 2) (TM Ms) (PM Ms) (Ms ++ [mn]):=by
      refine G4.snoc ?_ (fun b hb=>?_) (fun hn'=>by rw [hmn] at hn';cases hn') (fun y hy b hb hb'=>farN y hy b hb (by rw [fpn b hb'];exact b4))
      · rw [hmn]
        exact ⟨k4.1,k4.2.1,k4.2.2,fun ρ=>⟨rfl,.inl ⟨rfl,rfl,rfl,rfl⟩⟩⟩
      · rw [fpn b hb]
        exact ⟨hBn _ b4,hr4.inj 4 1 _ _ rfl rfl rfl rfl k4.1 k1.1 (by decide),fun hn'=>hr4.inj 4 2 _ _ rfl rfl rfl rfl k4.1 hn' (by decide)⟩
     refine r89_step (Lb:=ρ4 3) (x:=x) (q:=mn.ptr) G5 (fun ρ=>k3) ⟨hBn _ b3,hr4.inj 3 1 _ _ rfl rfl rfl rfl k3.1 k1.1 (by decide),fun hn'=>hr4.inj 3 2 _ _ rfl rfl rfl rfl k3.1 hn' (by decide)⟩ (fun y hy b hb e=>?_) (by rw [TM_keys];exact S.nd) hfnd (by have:=S.hml;unfold PM;rw [List.length_map];omega) F4 (hR4.sl 4 (vi i) rfl).2 (hR4.sl 5 (.ptr 3 0) rfl).2 ?_ fun a5 W5 Lm5 Lo5 G6 F6 h4 h6=>?_
     · rcases List.mem_append.1 hy with hy|hy
       · exact farN y hy b hb (by rw [e];exact b3)
       · obtain rfl:=List.mem_singleton.1 hy
         rw [fpn b hb] at e
         exact hr4.inj 4 3 _ _ rfl rfl rfl rfl k4.1 k3.1 (by decide) e
     · refine ((hR4.sl 6 (.ptr 4 0) rfl).2).trans ?_
       rw [hmn]
       simp only [den,k4.2.1,Nat.add_zero];rfl
     · show r10.wp _ _ _ _
       have hk:mn.k=keyI x:=by rw [hmn]
       refine hcont Ms mn [] a5 W5 Lm5 Lo5 _ _ G6 hk (by rw [hmn];exact h0) (fun y hy=>S.hat y (by simpa using hy)) (by have:=S.hml;rw [List.append_nil];omega) ?_ hnew ?_ ?_ (.inl ⟨List.append_nil _,rfl,by rw [hmn],hnew⟩) F6 h4 h6
       · rw [List.map_append,List.nodup_append]
         refine ⟨S.nd,by simp,fun y hy z hz e=>?_⟩
         simp only [List.map_cons,List.map_nil,List.mem_singleton] at hz
         rw [e,hz,hk] at hy
         exact hnew hy
       · unfold TM;rw [List.map_append,← hk];rfl
       · unfold PM;rw [List.map_append];rfl
 · have h12:a1.eval (.tmp 12) = .bool false:=by rw [h12,decide_eq_false hi];rfl
   have pin1:ρ1 0=Ll:=hR1.pn 0 (show 0<2 by decide)
   exact wp_seq (wp_cond_false h12 (wp_exit (hdone hi a1 w1 (ρ1 1) (ρ1 2) ⟨G.next hR1 rfl rfl rfl,S.nd,S.hat,S.hml⟩ (frG_of hR1 pin1 rfl rfl rfl rfl rfl rfl))))
end Go.Proofs.Ytlfkfajodnkkhaa.Iv
namespace Go.Proofs.Ytlfkfajodnkkhaa.Iv
open Go Go.RowKit Go.Proofs.YtlfkfajodnkkhaaW.PrintWords Go.Proofs.Ytlfkfajodnkkhaa.Ax Go.Proofs.Ytlfkfajodnkkhaa.Sh
set_option linter.unusedVariables false
set_option linter.unusedSimpArgs false
theorem gr_loop {l:List Item} {w:World} {Ll:Ax.Loc} (hl:l.length≤1000) {Rv:List GV} {Q:Exit→Act→World→Prop} (hQ:∀ a' W' Lm' Lo' Ms',GSt l w W' Ll Lm' Lo' Ms' (l.length:Int)→Ms'.map Mem.gv=Rv→FrG a' Ll Lm' Lo' (l.length:Int) (l.length:Int)→Q (.exit 0) a' W') :
 ∀ (Y X:List Item) (k:Nat) (Ms:List Mem) (a:Act) (W:World) (Lm Lo:Ax.Loc),l=X ++ Y→Y.length<k→GSt l w W Ll Lm Lo Ms (X.length:Int)→FrG a Ll Lm Lo (l.length:Int) (X.length:Int)→grpsV Y (X.length:Int) (Ms.map Mem.gv)=Rv→Code.rounds Try.prog gL Q k a W:=by
 intro Y
 induction Y with
 | nil =>
  intro X k Ms a W Lm Lo e hk S hf hv
  obtain ⟨k,rfl⟩:∃ j,k=j+1:=⟨k - 1,by simp at hk;omega⟩
  have hln:l.length=X.length:=by rw [e];simp
  rw [rounds_succ]
  refine gr_round hl S hf (by omega) (fun _ a' W' Lm' Lo' S' F'=>?_) (fun hlt=>absurd hlt (by omega))
  rw [← hln] at S' F'
  exact hQ a' W' Lm' Lo' Ms S' hv F'
 | cons x Y ih =>
  intro X k Ms a W Lm Lo e hk S hf hv
  obtain ⟨k,rfl⟩:∃ j,k=j+1:=⟨k - 1,by simp at hk;omega⟩
  rw [List.length_cons] at hk
  have hln:l.length=X.length+(Y.length+1):=by rw [e];simp
  have er:rIt l (X.length:Int)=x:=by rw [e];exact rIt_mid X Y x
  rw [rounds_succ]
  refine gr_round hl S hf (by omega) (fun hn=>absurd (show (X.length:Int)<(l.length:Int) by omega) hn) (fun _ a' W' Lm' Lo' Ms' S' hg F'=>?_)
  have e1:((X ++ [x]).length:Int)=(X.length:Int)+1:=by rw [List.length_append,List.length_singleton];omega
  rw [← e1] at S' F'
  refine ih (X ++ [x]) k Ms' a' W' Lm' Lo' (by rw [e];simp) (by omega) S' F' ?_
  rw [hg,er,e1]
  exact hv
theorem groups_call {l:List Item} (hl:l.length≤1000) (ρc:Rho) (w:World) (hok:OK ρc w (ρc 0) (.arg sIt l)) :
 Calls Try.prog 32 (denL ρc [.all 0]).toArray w fun e w'=>∃ Lm Lo Ms,e = .returned (rowVal Lo)∧GInv l w w' (ρc 0) Lm Lo (TM Ms) (PM Ms) Ms∧Ms.map Mem.gv=grpsV l 0 []:=by
 obtain ⟨ρ,hρ⟩:∃ ρ:Rho,ρ=fun _=>ρc 0:=⟨_,rfl⟩
 have e0:ρ 0=ρc 0:=by rw [hρ]
 have hbody:fGr.body=some (bodyOf fGr):=by kernel_rfl
 have hlt:(ρc 0).nil=false→(ρc 0).blk<w.heap.size:=fun hn=>hok.lt (fun e=>by cases e) hn
 have hr0:HR (Sh.BS w) ρ [(0,.arg sIt l)] w:=by
  refine ⟨fun j o ho=>?_,fun j o ho hw hn=>?_,fun j o ho hs hn=>?_,fun j j' o o' ho ho' hw hw' hn hn' hij=>?_⟩
  · obtain ⟨rfl,rfl⟩:=look_one ho;rw [e0];exact hok
  · obtain ⟨rfl,rfl⟩:=look_one ho;cases hw
  · obtain ⟨rfl,rfl⟩:=look_one ho
    rw [e0] at hn ⊢
    have:=hlt hn
    show ¬ w.heap.size≤_
    omega
  · obtain ⟨rfl,rfl⟩:=look_one ho;cases hw
 refine calls_of_wp Try.func32 hbody ?_
 rw [gr_code]
 have hE:Sound (eff Try.prog CGr) Try.prog (Sh.BS w) ⟨w,ρ,1,[]⟩ fGr.ntmps:=eff_sound (CGr_ok _)
 have hR0:R (Sh.BS w) ⟨w,ρ,1,[]⟩ fGr.ntmps (sg0 l) ρ { tmps:=(denL ρc [.all 0]).toArray ++ Array.replicate (fGr.ntmps - (denL ρc [.all 0]).toArray.size) undef,defers:=[] } w:=by
  refine ⟨by simp [denL],rfl,fun t s hs=>?_,hr0,fun b hb=>hb,Keeps.refl _ _,fun i hi=>rfl⟩
  have h1:=look_in hs
  simp only [sg0,List.mem_singleton,Prod.mk.injEq] at h1
  obtain ⟨rfl,rfl⟩:=h1
  refine ⟨lt49 (by decide),?_⟩
  show ((denL ρc [.all 0]).toArray ++ _).getD 0 undef=_
  rw [Array.getD_eq_getD_getElem?,Array.getElem?_append_left (by simp [denL])]
  rw [show den ρ (.all 0)=den ρc (.all 0) by simp only [den,e0]]
  rfl
 show (spineC [r0,r1] (.seq (.seq r2 (.block 0 (.loop gL))) rE)).wp _ _ _ _
 refine spineC_run Sh.mixed hE (Sh.cn0_ok _ _ _) (p:=1) (S:=[0,2,3]) (Nat.le_refl _) (fun ρ1 a1 w1 hw1 hR1=>?_) [r0,r1] _ (g01_eq l) ρ _ w (wf_chk rfl (by decide:1≤1)) hR0
 refine wp_seq (wp_seq (chunk (F:=1) (S:=[2,3,9,10,11]) (p:=1) Sh.mixed hE (Sh.cn0_ok _ _ _) (Nat.le_refl _) (g2_eq l) hw1 hR1 fun ρ2 a2 w2 hw2 hR2=>?_))
 have p0:ρ2 0=ρc 0:=(hR2.pn 0 (show 0<1 by decide)).trans e0
 have k0:=hR2.hr.ok 0 (.arg sIt l) rfl
 have k1:=hR2.hr.ok 1 (.mapo sKy sA []) rfl
 rw [p0] at k0
 have G0:GInv l w w2 (ρc 0) (ρ2 1) nilL [] [] [] :=
  ⟨hR2.ks,fun ρ'=>k0,hlt,fun ρ'=>k1,hR2.hr.inB 1 (.mapo sKy sA []) rfl rfl k1.1,fun ρ'=>⟨rfl,.inl ⟨rfl,rfl,rfl,rfl⟩⟩,fun h=>by (cases h),fun m hm=>by (cases hm),List.Pairwise.nil⟩
 have F0:FrG a2 (ρc 0) (ρ2 1) nilL (l.length:Int) 0:=by
  refine ⟨hR2.sz,hR2.df,(hR2.sl 2 (.v (.slice none 0 0)) rfl).2,(hR2.sl 3 (.map 1) rfl).2,?_,(hR2.sl 10 (vi (l.length:Int)) rfl).2,(hR2.sl 11 (vi 0) rfl).2⟩
  have:=(hR2.sl 9 (.all 0) rfl).2
  rw [this,← p0];rfl
 refine wp_block (wp_loop_rounds (l.length+1) ?_)
 refine gr_loop hl (Rv:=grpsV l 0 []) (fun a3 w3 Lm Lo Ms S3 hg F3=>?_) l [] (l.length+1) [] a2 w2 (ρ2 1) nilL rfl (by omega) ⟨G0,by simp,fun m hm=>by (cases hm),by simp⟩ F0 rfl
 show rE.wp _ _ _ _
 have G3:=S3.G
 have hE3:Sound (eff Try.prog CGr) Try.prog (B3 (ρc 0) Lm Lo l (TM Ms) (PM Ms) w3) (W3b (ρc 0) Lm Lo w3) fGr.ntmps:=eff_sound (CGr_ok _)
 refine wp_mono (ev_sound Sh.mixed hE3 (Sh.cn0_ok _ _ _) rE _ KRg _ (gE_eq l (TM Ms) (PM Ms) _ _) _ a3 w3 (wfH l (TM Ms) (PM Ms) _ _) (G3.toR F3)) ?_
 rintro e' a' w' ⟨e,s,ρ',rfl,hk,hw',hR'⟩
 cases e with
 | normal=>cases hk
 | exit id=>cases hk
 | ret =>
  obtain ⟨_,h2⟩:=gcSt_ok (B:=B3 (ρc 0) Lm Lo l (TM Ms) (PM Ms) w3) (w0:=W3b (ρc 0) Lm Lo w3) (n:=fGr.ntmps) (Nat.le_refl _) hk
  obtain ⟨ρ7,hR7⟩:=h2 _ _ _ hR'
  exact ⟨hR7.df,_,results_run hR7 (r:=[.all 2]) (by kernel_rfl),ρ7 1,ρ7 2,Ms,rfl,G3.next hR7 rfl rfl rfl,hg⟩
end Go.Proofs.Ytlfkfajodnkkhaa.Iv
namespace Go.Proofs.Ytlfkfajodnkkhaa.Iv
open Go Go.RowKit Go.Proofs.YtlfkfajodnkkhaaW.PrintWords Go.Proofs.Ytlfkfajodnkkhaa.Ax Go.Proofs.Ytlfkfajodnkkhaa.Sh
set_option linter.unusedVariables false
set_option linter.unusedSimpArgs false
noncomputable abbrev fEa:Func:=Try.f14
noncomputable def CEa (ct:List Item→OB) (gs:Bool→Int→List Int→List Item→OS):FuncId→Option Con
 | 31=>some (conX [qItems,qWrong] [qBool] fun x=>ct x.1)
 | 33=>some (conX [qGrp,qItems] [qSum,qInt] fun x=>gs x.1.1.1 x.1.1.2 x.1.2 x.2.1)
 | _=>none
theorem CEa_ok:∀ B' g φ,CEa ctV gsV g=some φ→ConOk Try.prog B' g φ:=by
 intro B' g φ h
 unfold CEa at h
 split at h
 · cases h;exact cCt_ok B'
 · cases h;exact cGs_ok B'
 · cases h
noncomputable def c0:Code:=bodyOf fEa
noncomputable def ea0:Code:=seqL c0
noncomputable def ea1:Code:=seqL (seqR c0)
noncomputable def c2:Code:=seqR (seqR c0)
noncomputable def ea2:Code:=seqL c2
noncomputable def c3:Code:=seqR c2
noncomputable def ea4:Code:=seqL c3
noncomputable def c4:Code:=seqR c3
noncomputable def ea5:Code:=seqL c4
noncomputable def c5:Code:=seqR c4
noncomputable def ea6:Code:=seqL (seqL c5)
noncomputable def eL:Code:=inL (inB (seqR (seqL c5)))
noncomputable def c6:Code:=seqR c5
noncomputable def ea14:Code:=seqL (seqL c6)
noncomputable def eM:Code:=inL (inB (seqR (seqL c6)))
noncomputable def eaE:Code:=seqR c6
noncomputable def eb7:Code:=seqL eL
noncomputable def eB:Code:=inB (seqL (seqR (seqR eL)))
noncomputable def eb13:Code:=seqR (seqR (seqR eL))
noncomputable def eb8:Code:=seqL eB
noncomputable def eb9:Code:=seqL (seqR eB)
noncomputable def eC:Code:=seqL (seqR (seqR eB))
noncomputable def eb10:Code:=seqL eC
noncomputable def eb11:Code:=inT (seqR eC)
noncomputable def eb12:Code:=seqR (seqR (seqR eB))
noncomputable def em15:Code:=seqL eM
noncomputable def eD:Code:=inB (seqL (seqR (seqR eM)))
noncomputable def em18:Code:=seqR (seqR (seqR eM))
noncomputable def em16:Code:=seqL eD
noncomputable def em17:Code:=seqR eD
theorem ea_code:bodyOf fEa=spineC [ea0,ea1,ea2] (.seq ea4 (.seq ea5 (.seq (.seq ea6 (.block 0 (.loop eL))) (.seq (.seq ea14 (.block 2 (.loop eM))) eaE)))):=by kernel_rfl
theorem eL_code:eL = .seq eb7 (.seq (.cond (.tmp 32) .skip (.exit 0)) (.seq (.block 1 (.seq eb8 (.seq eb9 (.seq (.seq eb10 (.cond (.tmp 42) eb11 .skip)) eb12)))) eb13)):=by kernel_rfl
theorem eM_code:eM = .seq em15 (.seq (.cond (.tmp 52) .skip (.exit 2)) (.seq (.block 3 (.seq em16 em17)) em18)):=by kernel_rfl
noncomputable abbrev evE (ct:List Item→OB) (gs:Bool→Int→List Int→List Item→OS) (S:List Nat) (p:Nat) (c:Code) (σ:St):Option St:=ev (eff Try.prog (CEa ct gs)) fEa.ntmps Sh.cn0 1 c σ (Kn S p)
def KRe (e:Ex) (σ:St):Option SV:=match e with
 | .ret=>Ax.look σ.sl 4
 | _=>none
section
variable (ct:List Item→OB) (gs:Bool→Int→List Int→List Item→OS) (l:List Item) (v:Value)
def se0:St:=⟨[(0,.all 0),(1,.v v)],[(0,.arg sIt l)],1⟩
def se1:St:=⟨[(0,.all 0),(1,.v v)],[(0,.arg sIt l)],2⟩
def seW (e:Int):Option SV:=some (vi e)
theorem pre_eq:evE ct gs [0,1] 1 (spineC [ea0,ea1,ea2] .skip) (se0 l v)=sel (decide ((l.length:Int)<1)) none (sel (decide (64<(l.length:Int))) none (obnd (ct l) fun c=>sel c.1 none (some (se1 l v)))):=by kernel_rfl
theorem wrong_eq:ev (eff Try.prog (CEa ct gs)) fEa.ntmps Sh.cn0 1 (bodyOf fEa) (se0 l v) KRe=sel (decide ((l.length:Int)<1)) (seW 2) (sel (decide (64<(l.length:Int))) (seW 2) (obnd (ct l) fun c=>sel c.1 (seW 2) none)):=by kernel_rfl
variable (ps:List (Option Addr)) (sums:List SumT) (n i:Int)
def rPs (ps:List (Option Addr)) (i:Int):Option Addr:=List.getD ps i.toNat none
def hE1:Hp:=[(0,.arg sIt l),(1,.row tGptr sA ps)]
def hE2:Hp:=[(0,.arg sIt l),(1,.row tGptr sA ps),(2,.row tSm sSm sums)]
def se4:St:=⟨[(0,.all 0),(1,.v v),(6,.all 1)],hE1 l ps,4⟩
def se5:St:=⟨[(0,.all 0),(1,.v v),(6,.all 1),(7,.v (.slice none 0 0))],hE1 l ps,4⟩
def se6:St:=⟨[(0,.all 0),(1,.v v),(6,.all 1),(7,.v (.slice none 0 0)),(29,.all 1),(30,vi (ps.length:Int)),(31,vi 0)],hE1 l ps,4⟩
theorem e5_eq:evE ct gs [0,1,6,7] 2 ea5 (se4 l v ps)=some (se5 l v ps):=by kernel_rfl
theorem e6_eq:evE ct gs [0,1,6,7,29,30,31] 2 ea6 (se5 l v ps)=some (se6 l v ps):=by kernel_rfl
def seH:St:=⟨[(0,.all 0),(1,.v v),(6,.all 1),(7,.all 2),(29,.all 1),(30,vi n),(31,vi i)],hE2 l ps sums,5⟩
def seI:St:=⟨[(0,.all 0),(1,.v v),(6,.all 1),(7,.all 2),(29,.all 1),(30,vi n),(31,vi i),(32,vb (decide (i<n)))],hE2 l ps sums,5⟩
def seJ (q:Option Addr):St:=⟨[(0,.all 0),(1,.v v),(6,.all 1),(7,.all 2),(9,.v (.pointer q)),(29,.all 1),(30,vi n),(31,vi i)],hE2 l ps sums,5⟩
def seG (k:Key) (at':List Int):St:=⟨[(0,.all 0),(1,.v v),(6,.all 1),(7,.all 2),(9,.ptr 3 0),(29,.all 1),(30,vi n),(31,vi i)],hE2 l ps sums ++ [(3,.ro tGp [vb k.1,vi k.2,.all 4]),(4,.arg sI at')],7⟩
def boxS (s:SumT):AObj:=.cells tSm [vb s.1,vi s.2.1,vi s.2.2.1,vi s.2.2.2]
def seS (s:SumT) (e:Int):St:=⟨[(0,.all 0),(1,.v v),(6,.all 1),(7,.all 2),(10,.ptr 3 0),(11,vi e),(29,.all 1),(30,vi n),(31,vi i)],hE2 l ps sums ++ [(3,boxS s)],6⟩
def seT (s:SumT) (e:Int):St:=⟨[(0,.all 0),(1,.v v),(6,.all 1),(7,.all 2),(10,.ptr 3 0),(11,vi e),(29,.all 1),(30,vi n),(31,vi i),(42,vb (e != 0))],hE2 l ps sums ++ [(3,boxS s)],6⟩
theorem e7_eq:evE ct gs [0,1,6,7,29,30,31,32] 2 eb7 (seH l v ps sums n i)=some (seI l v ps sums n i):=by kernel_rfl
theorem e8_eq:evE ct gs [0,1,6,7,9,29,30,31] 2 eb8 (seI l v ps sums n i)=Sh.idxP ps i (some (seJ l v ps sums n i (rPs ps i))):=by kernel_rfl
theorem e9_eq (k:Key) (at':List Int):evE ct gs [0,1,6,7,10,11,29,30,31] 2 eb9 (seG l v ps sums n i k at')=obnd (gs k.1 k.2 at' l) fun y=>some (seS l v ps sums n i y.1 y.2.1):=by kernel_rfl
theorem e10_eq (s:SumT) (e:Int):evE ct gs [0,1,6,7,10,11,29,30,31,42] 2 eb10 (seS l v ps sums n i s e)=some (seT l v ps sums n i s e):=by kernel_rfl
theorem e11_eq (s:SumT) (e:Int):ev (eff Try.prog (CEa ct gs)) fEa.ntmps Sh.cn0 1 eb11 (seT l v ps sums n i s e) KRe=seW e:=by kernel_rfl
theorem e12_eq (s:SumT) (e:Int):evE ct gs [0,1,6,7,29,30,31] 2 eb12 (seT l v ps sums n i s e)=moreP sums (some (seH l v ps (sums ++ [s]) n i)):=by kernel_rfl
theorem e13_eq:evE ct gs [0,1,6,7,29,30,31] 2 eb13 (seH l v ps sums n i)=some (seH l v ps sums n (Sh.IT.wrap (i+1))):=by kernel_rfl
def hE3:Hp:=[(0,.arg sIt l),(1,.arg sA ps),(2,.arg sSm sums)]
def seM:St:=⟨[(1,.v v),(7,.all 2),(49,.all 1),(50,vi n),(51,vi i)],hE3 l ps sums,6⟩
def seN:St:=⟨[(1,.v v),(7,.all 2),(49,.all 1),(50,vi n),(51,vi i),(52,vb (decide (i<n)))],hE3 l ps sums,6⟩
def seO (q:Option Addr):St:=⟨[(1,.v v),(7,.all 2),(12,vi i),(13,.v (.pointer q)),(49,.all 1),(50,vi n),(51,vi i)],hE3 l ps sums,6⟩
def seP:St:=⟨[(1,.v v),(7,.all 2),(49,.all 1),(50,vi n),(51,vi i)],hE2 l ps sums,5⟩
theorem e14_eq:evE ct gs [1,7,49,50,51] 2 ea14 (seH l v ps sums n i)=some (seP l v ps sums (ps.length:Int) 0):=by kernel_rfl
theorem e15_eq:evE ct gs [1,7,49,50,51,52] 3 em15 (seM l v ps sums n i)=some (seN l v ps sums n i):=by kernel_rfl
theorem e16_eq:evE ct gs [1,7,12,13,49,50,51] 3 em16 (seN l v ps sums n i)=Sh.idxP ps i (some (seO l v ps sums n i (rPs ps i))):=by kernel_rfl
theorem e18_eq:evE ct gs [1,7,49,50,51] 3 em18 (seM l v ps sums n i)=some (seM l v ps sums n (Sh.IT.wrap (i+1))):=by kernel_rfl
theorem eE_eq:ev (eff Try.prog (CEa ct gs)) fEa.ntmps Sh.cn0 1 eaE (seM l v ps sums n i) KRe=seW 0:=by kernel_rfl
end
end Go.Proofs.Ytlfkfajodnkkhaa.Iv
namespace Go.Proofs.Ytlfkfajodnkkhaa.Iv
open Go Go.RowKit Go.Proofs.YtlfkfajodnkkhaaW.PrintWords Go.Proofs.Ytlfkfajodnkkhaa.Ax Go.Proofs.Ytlfkfajodnkkhaa.Sh
set_option linter.unusedVariables false
set_option linter.unusedSimpArgs false
def sumsF (l:List Item):List GV→List SumT→Option (List SumT × Int)
 | [],acc=>some (acc,0)
 | g :: gs,acc=>(gsV g.1.1 g.1.2 g.2 l).bind fun y=>bif y.2.1 != 0 then some (acc,y.2.1) else sumsF l gs (acc ++ [y.1])
structure EInv (l:List Item) (w W:World) (Ll Lo Ls:Ax.Loc) (Ms:List Mem) (sums:List SumT):Prop where
 ks:Keeps (Sh.BS w) w W
 lo:∀ ρ,OK ρ W Ll (.arg sIt l)
 lb:Ll.nil=false→Ll.blk<w.heap.size
 oo:∀ ρ,OK ρ W Lo (.row tGptr sA (PM Ms))
 ob:Lo.nil=false→w.heap.size≤Lo.blk
 so:∀ ρ,OK ρ W Ls (.row tSm sSm sums)
 sb:Ls.nil=false→w.heap.size≤Ls.blk∧(Lo.nil=false→Ls.blk≠Lo.blk)
 ms:∀ m∈Ms,m.Ok W∧∀ b,m.Fp b→w.heap.size≤b∧(Lo.nil=false→b≠Lo.blk)∧(Ls.nil=false→b≠Ls.blk)
theorem look_E {l:List Item} {ps:List (Option Addr)} {sums:List SumT} {i:Nat} {o:AObj} (h:Ax.look (hE2 l ps sums) i=some o):(i=0∧o = .arg sIt l)∨(i=1∧o = .row tGptr sA ps)∨(i=2∧o = .row tSm sSm sums):=by
 have h1:=look_in h
 simp only [hE2,List.mem_cons,Prod.mk.injEq,List.not_mem_nil,or_false] at h1
 exact h1
structure FrE (a:Act) (Ll Lo Ls:Ax.Loc) (v:Value) (n i:Int):Prop where
 sz:a.tmps.size=fEa.ntmps
 df:a.defers=[]
 t0:a.tmps.getD 0 undef=rowVal Ll
 t1:a.tmps.getD 1 undef=v
 t6:a.tmps.getD 6 undef=rowVal Lo
 t7:a.tmps.getD 7 undef=rowVal Ls
 t29:a.tmps.getD 29 undef=rowVal Lo
 t30:a.tmps.getD 30 undef = .int .i64 n
 t31:a.tmps.getD 31 undef = .int .i64 i
theorem lt64 {t:Nat} (h:t<64):t<fEa.ntmps:=h
section
variable {l:List Item} {w W:World} {Ll Lo Ls:Ax.Loc} {Ms:List Mem} {sums:List SumT} {v:Value} {n i:Int}
theorem EInv.hr (E:EInv l w W Ll Lo Ls Ms sums):HR (Sh.BS w) (rho3 Ll Lo Ls) (hE2 l (PM Ms) sums) W:=by
 refine ⟨fun j o ho=>?_,fun j o ho hw hn=>?_,fun j o ho hs hn=>?_,fun j j' o o' ho ho' hw hw' hn hn' hij=>?_⟩
 · rcases look_E ho with ⟨rfl,rfl⟩|⟨rfl,rfl⟩|⟨rfl,rfl⟩
   · exact E.lo _
   · exact E.oo _
   · exact E.so _
 · rcases look_E ho with ⟨rfl,rfl⟩|⟨rfl,rfl⟩|⟨rfl,rfl⟩
   · cases hw
   · exact E.ob hn
   · exact (E.sb hn).1
 · rcases look_E ho with ⟨rfl,rfl⟩|⟨rfl,rfl⟩|⟨rfl,rfl⟩
   · have:=E.lb hn
     show ¬ w.heap.size≤Ll.blk
     omega
   · cases hs
   · cases hs
 · rcases look_E ho with ⟨rfl,rfl⟩|⟨rfl,rfl⟩|⟨rfl,rfl⟩<;>rcases look_E ho' with ⟨rfl,rfl⟩|⟨rfl,rfl⟩|⟨rfl,rfl⟩
   · cases hw
   · cases hw
   · cases hw
   · cases hw'
   · exact absurd rfl hij
   · exact fun e=>(E.sb hn').2 hn e.symm
   · cases hw'
   · exact (E.sb hn).2 hn'
   · exact absurd rfl hij
abbrev BE (l:List Item) (Ll Lo Ls:Ax.Loc) (Ms:List Mem) (sums:List SumT) (W:World):Nat→Prop:=Bn (rho3 Ll Lo Ls) (hE2 l (PM Ms) sums) W
theorem EInv.far (E:EInv l w W Ll Lo Ls Ms sums):∀ m∈Ms,∀ b,m.Fp b→¬ BE l Ll Lo Ls Ms sums W b:=by
 intro m hm b hb hB
 have h:=E.ms m hm
 have:=h.1.lt b hb
 rcases hB with hB|⟨j,o,ho,hw,hn,rfl⟩
 · omega
 · rcases look_E ho with ⟨rfl,rfl⟩|⟨rfl,rfl⟩|⟨rfl,rfl⟩
   · cases hw
   · exact (h.2 _ hb).2.1 hn rfl
   · exact (h.2 _ hb).2.2 hn rfl
theorem EInv.after (E:EInv l w W Ll Lo Ls Ms sums) {ρ':Rho} {h':Hp} {W':World} {sums':List SumT} (hr':HR (BE l Ll Lo Ls Ms sums W) ρ' h' W') (hk:Keeps (BE l Ll Lo Ls Ms sums W) W W') (h0:Ax.look h' 0=some (.arg sIt l)) (h1:Ax.look h' 1=some (.row tGptr sA (PM Ms))) (h2:Ax.look h' 2=some (.row tSm sSm sums'))
 (e0:ρ' 0=Ll) (e1:ρ' 1=Lo):EInv l w W' Ll Lo (ρ' 2) Ms sums':=by
 have up:∀ b,W.heap.size≤b→Sh.BS w b:=fun b hb=>Nat.le_trans E.ks.size hb
 have hsub:=Bn.sub E.hr up
 have k0:=hr'.ok 0 _ h0
 have k1:=hr'.ok 1 _ h1
 have k2:=hr'.ok 2 _ h2
 rw [e0] at k0
 rw [e1] at k1
 refine ⟨E.ks.trans (hk.widen hsub),fun _=>k0,E.lb,fun _=>k1,E.ob,fun _=>k2,fun hn=>⟨hsub _ (hr'.inB 2 _ h2 rfl hn),fun hn1=>?_⟩,fun m hm=>⟨(E.ms m hm).1.keep hk.size fun b hb=>hk.block b (E.far m hm b hb),fun b hb=>⟨((E.ms m hm).2 b hb).1,((E.ms m hm).2 b hb).2.1,fun hn e=>E.far m hm b hb (e ▸ hr'.inB 2 _ h2 rfl hn)⟩⟩⟩
 have:=hr'.inj 2 1 _ _ h2 h1 rfl rfl hn (by rw [e1];exact hn1) (by decide)
 rw [e1] at this
 exact this
abbrev WE (Ll Lo Ls:Ax.Loc) (W:World):Base:=⟨W,rho3 Ll Lo Ls,2,[]⟩
theorem EInv.toR (E:EInv l w W Ll Lo Ls Ms sums) {a:Act} (hf:FrE a Ll Lo Ls v n i):R (BE l Ll Lo Ls Ms sums W) (WE Ll Lo Ls W) fEa.ntmps (seH l v (PM Ms) sums n i) (rho3 Ll Lo Ls) a W:=by
 refine ⟨hf.sz,hf.df,fun t s hs=>?_,E.hr.narrow,fun b hb=>.inl hb,Keeps.refl _ _,fun j hj=>rfl⟩
 have h1:=look_in hs
 simp only [seH,List.mem_cons,Prod.mk.injEq,List.not_mem_nil,or_false] at h1
 rcases h1 with ⟨rfl,rfl⟩|⟨rfl,rfl⟩|⟨rfl,rfl⟩|⟨rfl,rfl⟩|⟨rfl,rfl⟩|⟨rfl,rfl⟩|⟨rfl,rfl⟩
 · exact ⟨lt64 (by decide),hf.t0⟩
 · exact ⟨lt64 (by decide),hf.t1⟩
 · exact ⟨lt64 (by decide),hf.t6⟩
 · exact ⟨lt64 (by decide),hf.t7⟩
 · exact ⟨lt64 (by decide),hf.t29⟩
 · exact ⟨lt64 (by decide),hf.t30⟩
 · exact ⟨lt64 (by decide),hf.t31⟩
theorem frE_of {B:Nat→Prop} {b0:Base} {σ':St} {ρ':Rho} {a':Act} {W':World} (hR:R B b0 fEa.ntmps σ' ρ' a' W') (e0:ρ' 0=Ll) (e1:ρ' 1=Lo) (h0:Ax.look σ'.sl 0=some (.all 0)) (h1:Ax.look σ'.sl 1=some (.v v)) (h6:Ax.look σ'.sl 6=some (.all 1)) (h7:Ax.look σ'.sl 7=some (.all 2)) (h29:Ax.look σ'.sl 29=some (.all 1)) (h30:Ax.look σ'.sl 30=some (vi n)) (h31:Ax.look σ'.sl 31=some (vi i)) (hd:b0.dfs=[]):FrE a' Ll Lo (ρ' 2) v n i:=by
 refine ⟨hR.sz,hR.df.trans hd,?_,(hR.sl 1 _ h1).2,?_,(hR.sl 7 _ h7).2,?_,(hR.sl 30 _ h30).2,(hR.sl 31 _ h31).2⟩
 · rw [(hR.sl 0 _ h0).2,← e0];rfl
 · rw [(hR.sl 6 _ h6).2,← e1];rfl
 · rw [(hR.sl 29 _ h29).2,← e1];rfl
theorem wfE (l:List Item) (v:Value) (ps:List (Option Addr)) (sums:List SumT) (n i:Int):Wf 2 (seH l v ps sums n i):=wf_chk rfl (by decide:2≤5)
end
theorem ret_of {e:Int} {B:Nat→Prop} {b0:Base} {c:Code} {σ:St} (hE:Sound (eff Try.prog (CEa ctV gsV)) Try.prog B b0 fEa.ntmps) (hd:b0.dfs=[]) (h:ev (eff Try.prog (CEa ctV gsV)) fEa.ntmps Sh.cn0 1 c σ KRe=seW e) {ρ:Rho} {a:Act} {W:World} (hw:Wf b0.pin σ) (hR:R B b0 fEa.ntmps σ ρ a W)
 {Q:Exit→Act→World→Prop} (hQ:∀ a' W',a'.defers=[]→(results fEa a'.tmps).run Try.prog W' = .ok (.int .i64 e) W'→Keeps B b0.w W'→Q .ret a' W'):c.wp Try.prog Q a W:=by
 refine wp_mono (ev_sound Sh.mixed hE (Sh.cn0_ok _ _ _) c _ KRe _ h ρ a W hw hR) ?_
 rintro e' a' w' ⟨x,s,ρ',rfl,hk,hw',hR'⟩
 cases x with
 | normal=>cases hk
 | exit id=>cases hk
 | ret =>
  have hs:Ax.look s.sl 4=some (vi e):=hk
  refine hQ a' w' (hR'.df.trans hd) ?_ hR'.ks
  have h4:=(hR'.sl 4 _ hs).2
  rw [Array.getD_eq_getD_getElem?] at h4
  simp [results,Try.f14,go_sem]
  exact h4
end Go.Proofs.Ytlfkfajodnkkhaa.Iv
