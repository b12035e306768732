/- InvoiceAlone. -/
import Derived.Test.YtlfkfajodnkkhaaShI
import Derived.Test.YtlfkfajodnkkhaaX11
import Derived.Test.YtlfkfajodnkkhaaX0
import Derived.Test.YtlfkfajodnkkhaaAx14
import Derived.Test.YtlfkfajodnkkhaaAx4
import Derived.Test.YtlfkfajodnkkhaaMoney
import Derived.Test.YtlfkfajodnkkhaaX2
import Derived.Test.YtlfkfajodnkkhaaX3
import Derived.Test.YtlfkfajodnkkhaaX5
import Derived.Test.YtlfkfajodnkkhaaX6
import Derived.Test.YtlfkfajodnkkhaaAx8
import Derived.Test.YtlfkfajodnkkhaaRef01A
import Derived.Test.YtlfkfajodnkkhaaIvK
import Derived.Test.YtlfkfajodnkkhaaIvY
namespace Go.Proofs.Ytlfkfajodnkkhaa.Ax
open Go Go.RowKit Go.Proofs.Ytlfkfajodnkkhaa.Print Go.Proofs.YtlfkfajodnkkhaaW.PrintWords
set_option linter.unusedVariables false
set_option linter.unusedSimpArgs false
theorem run_opt {γ α:Type} (x:Option γ) (k:γ→Rd α) (h:Hp):(Rd.opt x k).run h=(match x with|some y=>(k y).run h|none=>none):=by cases x<;>rfl
theorem may_f (a:Int):octroiref01_May.f a=some (mayB a):=by
 unfold octroiref01_May.f mayB
 by_cases h1:a≥-4611686018427387904
 · rw [if_pos h1,decide_eq_true (show -4611686018427387904≤a from h1)];rfl
 · rw [if_neg h1,decide_eq_false (show ¬ -4611686018427387904≤a from h1)];rfl
def cMayR:Con:=fun args _=>match args with
 | [.v (.int .i64 a)]=>.ret ⟨.v (.bool (mayB a)),[]⟩
 | _=>.fail
theorem cMayR_ok (B):ConOk Try.prog B 18 cMayR:=by
 intro args ρ h w lo out ids hr hrh hfr hfa up
 unfold cMayR at hr
 split at hr
 · cases hr
   refine gives_plain (fn:=Try.f18) Try.func18 (by kernel_rfl) (by kernel_rfl) hrh up ?_
   exact (octroiref01_May.calls _ _ w (may_f _)).mono fun e w' h=>⟨h.1,h.2.below⟩
 · cases hr
def cOf (k:Nat):Con:=fun args lo=>match args with
 | [.v (.int .i64 a)]=>.opt (octroiref01_Of.f k a) fun r=>.ret ⟨numS r.1 lo,[(lo,.row 3 [.int .i64] r.2)]⟩
 | _=>.fail
theorem cOf_ok (k) (B):ConOk Try.prog B 27 (cOf k):=by
 intro args ρ h w lo out ids hr hrh hfr hfa up
 unfold cOf at hr
 split at hr
 · rename_i a
   replace hr:=(run_opt _ _ _).symm.trans hr
   cases hf:octroiref01_Of.f k a with
   | none=>rw [hf] at hr;cases hr
   | some r =>
    rw [hf] at hr
    cases hr
    exact gives_num (fn:=Try.f27) Try.func27 (by kernel_rfl) (by kernel_rfl) hrh hfr up (octroiref01_Of.calls k _ r.1 r.2 w hf)
 · cases hr
theorem arg_row {B:Nat→Prop} {ρ:Rho} {h:Hp} {w:World} {i e:Nat} {l:List Int} (hr:HR B ρ h w) (ho:look h i=some (.row e [.int .i64] l)) (hl:l.length≤9223372036854775807) :
 ∃ A c,den ρ (.all i) = .slice A l.length c∧l.length≤c∧Kd.C (Kd.int .i64) w A l.length l:=by
 obtain ⟨A,c,h1,h2,h3⟩:=C_of_row (hr.ok i _ ho) hl
 exact ⟨A,c,h1 ρ i rfl,h2,h3⟩
def numCon (e:Nat) (F:Bool→List Int→Bool→List Int→Option (Bool × List Int)):Con:=fun args lo=>match args with
 | [.agg [.v (.bool n0),.all i0],.agg [.v (.bool n1),.all i1]]=>rowOf i0 fun l0=>rowOf i1 fun l1=>.opt (F n0 l0 n1 l1) fun r=>.ret ⟨numS r.1 lo,[(lo,.row e [.int .i64] r.2)]⟩
 | _=>.fail
theorem numCon_ok {P : Program} {f : FuncId} {fn : Func} {e : Nat} {F : Bool → List Int → Bool → List Int → Option (Bool × List Int)} (hf : P.funcs[f]? = some fn) (hname : (fn.name == "runtime.NumGoroutine") = false) (hbody : fn.body.isSome = true)
 (hc:∀ n0 A0 c0 l0 n1 A1 c1 l1 r1 r2 (w:World),Kd.C (Kd.int .i64) w A0 l0.length l0→l0.length≤c0→Kd.C (Kd.int .i64) w A1 l1.length l1→l1.length≤c1→F n0 l0 n1 l1=some (r1,r2)→
  Calls P f #[.agg #[.bool n0,.slice A0 l0.length c0],.agg #[.bool n1,.slice A1 l1.length c1]] w fun x w'=>∃ v:Value,x = .returned (.agg #[.bool r1,v])∧Kd.R (Kd.int .i64) e w' w.heap.size (fun _=>True) v r2∧Below w.heap.size w w') (B) :
 ConOk P B f (numCon e F):=by
 intro args ρ h w lo out ids hr hrh hfr hfa up
 unfold numCon at hr
 split at hr
 · rename_i n0 i0 n1 i1
   obtain ⟨e0,l0,ids0,o0,b0,hr⟩:=rowOf_run hr
   obtain ⟨e1,l1,ids1,o1,b1,hr⟩:=rowOf_run hr
   replace hr:=(run_opt _ _ _).symm.trans hr
   cases hf':F n0 l0 n1 l1 with
   | none=>rw [hf'] at hr;cases hr
   | some r =>
    obtain ⟨r1,r2⟩:=r
    rw [hf'] at hr
    cases hr
    obtain ⟨A0,c0,d0,g0,q0⟩:=arg_row hrh o0 b0
    obtain ⟨A1,c1,d1,g1,q1⟩:=arg_row hrh o1 b1
    have hargs:(denL ρ [.agg [.v (.bool n0),.all i0],.agg [.v (.bool n1),.all i1]]).toArray = #[.agg #[.bool n0,.slice A0 l0.length c0],.agg #[.bool n1,.slice A1 l1.length c1]]:=by
     show (#[Value.agg #[.bool n0,den ρ (.all i0)],Value.agg #[.bool n1,den ρ (.all i1)]]:Array Value)=_
     rw [d0,d1]
    rw [hargs]
    exact gives_num hf hname hbody hrh hfr up (hc _ _ _ _ _ _ _ _ _ _ w q0 g0 q1 g1 hf')
 · cases hr
def cMulR (k:Nat):Con:=numCon 3 (octroiref01_Mul.f k)
theorem cMulR_ok (k):∀ B,ConOk Try.prog B 58 (cMulR k) :=
 numCon_ok (fn:=Try.f58) Try.func58 (by kernel_rfl) (by kernel_rfl) fun n0 A0 c0 l0 n1 A1 c1 l1 r1 r2 w q0 g0 q1 g1 hf=>octroiref01_Mul.calls k n0 A0 c0 l0 n1 A1 c1 l1 r1 r2 w q0 g0 q1 g1 hf
def cAddR (k:Nat):Con:=numCon 3 (octroiref01_Add.f k)
theorem cAddR_ok (k):∀ B,ConOk Try.prog B 26 (cAddR k) :=
 numCon_ok (fn:=Try.f26) Try.func26 (by kernel_rfl) (by kernel_rfl) fun n0 A0 c0 l0 n1 A1 c1 l1 r1 r2 w q0 g0 q1 g1 hf=>octroiref01_Add.calls k n0 A0 c0 l0 n1 A1 c1 l1 r1 r2 w q0 g0 q1 g1 hf
def cHalf (k:Nat):Con:=fun args lo=>match args with
 | [.agg [.v (.bool n0),.all i0],.v (.int .i64 c)]=>rowOf i0 fun l0=>.opt (octroiref02_half.f k n0 l0 c) fun r=>.ret ⟨.v (.int .i64 r),[]⟩
 | _=>.fail
theorem cHalf_ok (k) (B):ConOk Try.prog B 60 (cHalf k):=by
 intro args ρ h w lo out ids hr hrh hfr hfa up
 unfold cHalf at hr
 split at hr
 · rename_i n0 i0 c
   obtain ⟨e0,l0,ids0,o0,b0,hr⟩:=rowOf_run hr
   replace hr:=(run_opt _ _ _).symm.trans hr
   cases hf:octroiref02_half.f k n0 l0 c with
   | none=>rw [hf] at hr;cases hr
   | some r =>
    rw [hf] at hr
    cases hr
    obtain ⟨A0,c0,d0,g0,r0⟩:=arg_row hrh o0 b0
    have hargs:(denL ρ [.agg [.v (.bool n0),.all i0],.v (.int .i64 c)]).toArray = #[.agg #[.bool n0,.slice A0 l0.length c0],.int .i64 c]:=by
     show (#[Value.agg #[.bool n0,den ρ (.all i0)],.int .i64 c]:Array Value)=_
     rw [d0]
    rw [hargs]
    exact gives_plain (fn:=Try.f60) Try.func60 (by kernel_rfl) (by kernel_rfl) hrh up (octroiref02_half.calls k n0 A0 c0 l0 c r w r0 g0 hf)
 · cases hr
theorem abs_ev (b:Bool) (A:Option Addr) (n c:Nat):evFn Try.prog (fun _=>none) cn0 4 Try.f59 [.agg [.v (.bool b),.v (.slice A n c)]] [] 0 K1=some (.agg [.v (.bool false),.v (.slice A n c)]):=by kernel_rfl
def cAbsV:Con:=fun args _=>match args with
 | [.agg [.v (.bool b),.v (.slice A n c)]]=>.ret ⟨.agg [.v (.bool false),.v (.slice A n c)],[]⟩
 | _=>.fail
theorem cAbsV_ok (B):ConOk Try.prog B 59 cAbsV:=by
 refine con_pure (fn:=Try.f59) mixed Try.func59 (by kernel_rfl) rfl (C:=fun _=>none) (fun B' g φ h=>by cases h) (cn:=cn0) (F:=4) (fun B' w=>cn0_ok B' w _) ?_ B
 intro args lo h out ids hr
 unfold cAbsV at hr
 split at hr
 · cases hr;exact ⟨rfl,rfl,abs_ev _ _ _ _⟩
 · cases hr
def cAbs:Con:=fun args _=>match args with
 | [.agg [.v (.bool b),.all i]]=>.ret ⟨.agg [.v (.bool false),.all i],[]⟩
 | _=>.fail
theorem cAbs_ok (B):ConOk Try.prog B 59 cAbs:=by
 intro args ρ h w lo out ids hr hrh hfr hfa up
 unfold cAbs at hr
 split at hr
 · rename_i b i
   cases hr
   obtain ⟨A,n,c,hs⟩:∃ A n c,den ρ (.all i) = .slice A n c:=by
    simp only [den];split<;>exact ⟨_,_,_,rfl⟩
   have hargs:(denL ρ [.agg [.v (.bool b),.all i]]).toArray=(denL ρ [.agg [.v (.bool b),.v (.slice A n c)]]).toArray:=by
    show (#[Value.agg #[.bool b,den ρ (.all i)]]:Array Value)=_
    rw [hs];rfl
   rw [hargs]
   refine gives_same (fn:=Try.f59) Try.func59 (by kernel_rfl) (by kernel_rfl) hrh up ?_
   have:=calls_of_con (fn:=Try.f59) Try.func59 (by kernel_rfl) rfl cAbsV_ok (args:=[.agg [.v (.bool b),.v (.slice A n c)]]) (out:=⟨.agg [.v (.bool false),.v (.slice A n c)],[]⟩) (ids:=[]) rfl rfl rfl ρ w
   refine this.mono fun e w' h=>⟨?_,h.2⟩
   rw [h.1]
   show Ending.returned (.agg #[.bool false,.slice A n c]) = .returned (.agg #[.bool false,den ρ (.all i)])
   rw [hs]
 · cases hr
def CRef (k:Nat):FuncId→Option Con
 | 18=>some cMayR
 | 27=>some (cOf k)
 | 58=>some (cMulR k)
 | 26=>some (cAddR k)
 | 60=>some (cHalf k)
 | 59=>some cAbs
 | _=>none
theorem CRef_ok (k) (B g φ) (h:CRef k g=some φ):ConOk Try.prog B g φ:=by
 unfold CRef at h
 split at h
 · cases h;exact cMayR_ok B
 · cases h;exact cOf_ok k B
 · cases h;exact cMulR_ok k B
 · cases h;exact cAddR_ok k B
 · cases h;exact cHalf_ok k B
 · cases h;exact cAbs_ok B
 · cases h
end Go.Proofs.Ytlfkfajodnkkhaa.Ax
namespace Go.Proofs.Ytlfkfajodnkkhaa.Print
open Go.RowKit Go.Proofs.YtlfkfajodnkkhaaW.PrintWords Go.Proofs.YtlfkfajodnkkhaaW.PrintLast Go.Proofs.YtlfkfajodnkkhaaW.PrintMore
set_option linter.unusedVariables false
set_option linter.unusedSimpArgs false
theorem dval_set:∀ (l:List Int) (j:Nat) (v:Int),j<l.length→dval (l.set j v)=dval l+2147483648 ^ j * (v - rd l (j:Int))
 | [],j,v,h=>by simp at h
 | d :: l,0,v,h=>by
  rw [rd_nat];simp only [List.set_cons_zero,dval,List.getD_cons_zero,Int.pow_zero];omega
 | d :: l,j+1,v,h=>by
  have ih:=dval_set l j v (by simpa using h)
  rw [rd_nat] at ih ⊢
  simp only [List.set_cons_succ,dval,List.getD_cons_succ,ih,Int.pow_succ]
  rw [Int.mul_add,← Int.mul_assoc,Int.mul_comm 2147483648 (2147483648 ^ j)]
  omega
theorem rd_set (l:List Int) (j j':Nat) (v:Int) (h:j<l.length):rd (l.set j v) (j':Int)=if j=j' then v else rd l (j':Int):=by
 rw [rd_nat,rd_nat,List.getD_eq_getElem?_getD,List.getD_eq_getElem?_getD,List.getElem?_set]
 split
 · rename_i e;subst e;simp [h]
 · rfl
theorem Dig.set {l:List Int} (h:Dig l) (j:Nat) (v:Int) (hv:0≤v∧v<2147483648):Dig (l.set j v):=by
 intro d hd
 rcases List.mem_or_eq_of_mem_set hd with hd|hd
 · exact h d hd
 · subst hd;exact hv
theorem dig_mul {x y:Int} (hx:0≤x∧x<2147483648) (hy:0≤y∧y<2147483648):0≤x * y∧x * y≤4611686014132420609 :=
 ⟨Int.mul_nonneg hx.1 hy.1,by
  have:=Int.mul_le_mul (show x≤2147483647 by omega) (show y≤2147483647 by omega) hy.1 (by omega)
  omega⟩
theorem step_nums {c r x s:Int} (hc:0≤c∧c<2147483648) (hr:0≤r∧r<2147483648) (hx:0≤x∧x≤4611686014132420609) (hs:s=c+r+x) :
 wrap64 (c+r)=c+r∧wrap64 x=x∧wrap64 (c+r+x)=s∧Int.tmod s 2147483648=s % 2147483648∧wrap64 (Int.tdiv s 2147483648)=s / 2147483648:=by
 have sb:0≤s∧s≤4611686018427387903:=by omega
 refine ⟨w64 (by omega) (by omega),w64 (by omega) (by omega),by rw [← hs];exact w64 (by omega) (by omega),tmod_nn sb.1,?_⟩
 rw [tdiv_nn sb.1];exact w64 (by omega) (by omega)
theorem step_at {i k m:Nat} (h:i+k≤m) (hm:m≤2000000000):wrap64 ((i:Int)+(k:Int))=((i+k:Nat):Int):=by rw [w64 (by omega) (by omega)];omega
theorem step_one {k:Nat} (h:k≤2000000000):wrap64 ((k:Int)+1)=((k+1:Nat):Int):=by rw [w64 (by omega) (by omega)];omega
theorem mul_step (n1 n2:Bool) (a b:List Int) {d:List Int} {q i k:Nat} {c r x s:Int} (hi:i<a.length) (hk:k<b.length) (hd:i+k<d.length) (la:a.length≤1000000) (lb:b.length≤1000000)
 (hc:0≤c∧c<2147483648) (hr:0≤r∧r<2147483648) (hx:0≤x∧x≤4611686014132420609) (hre:rd d ((i+k:Nat):Int)=r) (hxe:rd a (i:Int) * rd b (k:Int)=x) (hs:s=c+r+x) :
 octroiref01_Mul.l1 (q+1) d (i:Int) c (k:Int) n1 a n2 b=octroiref01_Mul.l1 q (d.set (i+k) (s % 2147483648)) (i:Int) (s / 2147483648) ((k+1:Nat):Int) n1 a n2 b:=by
 have w1:=step_at (i:=i) (k:=k) (m:=i+k) (Nat.le_refl _) (Nat.le_trans (Nat.add_le_add (Nat.le_trans (Nat.le_of_lt hi) la) (Nat.le_trans (Nat.le_of_lt hk) lb)) (by decide))
 have w2:=step_one (k:=k) (Nat.le_trans (Nat.le_trans (Nat.le_of_lt hk) lb) (by decide))
 obtain ⟨q7,q8,q9,q10,q11⟩:=step_nums hc hr hx hs
 clear hs hc hr hx la lb
 have q1:(k:Int)<(b.length:Int):=Int.ofNat_lt.2 hk
 have q2:(0:Int)≤((i+k:Nat):Int):=Int.natCast_nonneg _
 have q3:((i+k:Nat):Int)<(d.length:Int):=Int.ofNat_lt.2 hd
 have q4:(0:Int)≤(i:Int):=Int.natCast_nonneg _
 have q5:(i:Int)<(a.length:Int):=Int.ofNat_lt.2 hi
 have q6:(0:Int)≤(k:Int):=Int.natCast_nonneg _
 clear hk hd hi
 conv=>lhs;unfold octroiref01_Mul.l1
 rw [if_pos q1,w1,w2,if_pos q2,if_pos q3,if_pos q4,if_pos q5,if_pos q6,Int.toNat_natCast,hre,hxe,q7,q8,q9,q10,q11]
section
variable (n1 n2:Bool) (a b:List Int) (ha:Dig a) (hb:Dig b) (la:a.length≤1000000) (lb:b.length≤1000000)
include ha hb la lb
theorem mul_inner (i:Nat) (hi:i<a.length) (m:Nat):∀ (k:Nat) (c:Int) (d:List Int),k+m=b.length→Dig d→d.length=a.length+b.length+1→0≤c→c<2147483648→
 (∀ j:Nat,i+b.length≤j→rd d (j:Int)=0)→
 ∃ d',Dig d'∧d'.length=a.length+b.length+1∧(∀ j:Nat,i+1+b.length≤j→rd d' (j:Int)=0)∧dval d'=dval d+2147483648 ^ (i+k) * (c+rd a (i:Int) * dval (b.drop k))∧
  ∀ R,Ev (fun q=>octroiref01_Mul.l0 q d' ((i+1:Nat):Int) n1 a n2 b) R→Ev (fun q=>octroiref01_Mul.l1 q d (i:Int) c (k:Int) n1 a n2 b) R:=by
 induction m with
 | zero =>
  intro k c d hk hd hl c0 c1 hz
  have hzz:=hz (i+b.length) (Nat.le_refl _)
  refine ⟨d.set (i+b.length) c,hd.set _ _ ⟨c0,c1⟩,by rw [List.length_set];exact hl,fun j hj=>?_,?_,fun R hR=>?_⟩
  · rw [rd_set d _ _ _ (by omega),if_neg (by omega)];exact hz j (by omega)
  · rw [dval_set d _ _ (by omega),hzz,List.drop_eq_nil_of_le (by omega),show k=b.length by omega];simp [dval]
  · refine Ev.step (fun q=>?_) hR
    clear hz hd
    have w1:wrap64 ((i:Int)+(b.length:Int))=((i+b.length:Nat):Int):=by rw [w64 (by omega) (by omega)];omega
    have w2:wrap64 ((i:Int)+1)=((i+1:Nat):Int):=by rw [w64 (by omega) (by omega)];omega
    simp only [octroiref01_Mul.l1]
    rw [if_neg (by omega),w1,w2,if_pos (by omega),if_pos (by omega),Int.toNat_natCast,hzz,Int.zero_add,w64 (by omega) (by omega)]
 | succ m ih =>
  intro k c d hk hd hl c0 c1 hz
  have ra:=ha.rd i hi
  have rb:=hb.rd k (by omega)
  have rdd:=hd.rd (i+k) (by omega)
  have hx:=dig_mul ra rb
  obtain ⟨x,hxe⟩:∃ x,x=rd a (i:Int) * rd b (k:Int):=⟨_,rfl⟩
  obtain ⟨r,hre⟩:∃ r,r=rd d ((i+k:Nat):Int):=⟨_,rfl⟩
  rw [← hxe] at hx
  rw [← hre] at rdd
  obtain ⟨s,hs⟩:∃ s,s=c+r+x:=⟨_,rfl⟩
  obtain ⟨d',g1,g2,g3,g4,g5⟩:=ih (k+1) (s / 2147483648) (d.set (i+k) (s % 2147483648)) (by omega) (hd.set _ _ (by omega)) (by rw [List.length_set];exact hl) (by omega) (by omega)
   (fun j hj=>by rw [rd_set d _ _ _ (by omega),if_neg (by omega)];exact hz j hj)
  refine ⟨d',g1,g2,g3,?_,fun R hR=>Ev.step (fun q=>?_) (g5 R hR)⟩
  · rw [g4,dval_set d _ _ (by omega),← hre]
    have db:=drop_rd b k (by omega)
    rw [db]
    simp only [dval]
    have e1:rd a (i:Int) * (rd b (k:Int)+2147483648 * dval (b.drop (k+1)))=x+2147483648 * (rd a (i:Int) * dval (b.drop (k+1))):=by
     rw [Int.mul_add,← hxe,← Int.mul_assoc,Int.mul_comm (rd a (i:Int)) 2147483648,Int.mul_assoc]
    rw [e1]
    generalize rd a (i:Int) * dval (b.drop (k+1))=y
    rw [show i+(k+1)=i+k+1 by omega,Int.pow_succ]
    generalize (2147483648:Int) ^ (i+k)=q
    have e2:q * 2147483648 * (s / 2147483648+y)=q * (2147483648 * (s / 2147483648+y)):=Int.mul_assoc _ _ _
    rw [e2,Int.add_assoc,← Int.mul_add]
    congr 2
    omega
  · rw [mul_step n1 n2 a b (q:=q) hi (show k<b.length by omega) (show i+k<d.length by omega) la lb ⟨c0,c1⟩ rdd ⟨hx.1,hx.2⟩ hre.symm hxe.symm hs]
theorem mul_outer (m:Nat):∀ (i:Nat) (d:List Int),i+m=a.length→Dig d→d.length=a.length+b.length+1→(∀ j:Nat,i+b.length≤j→rd d (j:Int)=0)→
 ∃ r,Ev (fun q=>octroiref01_Mul.l0 q d (i:Int) n1 a n2 b) (if r=[] then false else n1 != n2,r)∧Dig r∧NZ r∧dval r=dval d+2147483648 ^ i * (dval (a.drop i) * dval b)∧r.length≤a.length+b.length+1:=by
 induction m with
 | zero =>
  intro i d hi hd hl hz
  obtain ⟨r,he,h1,h2,h3,h4⟩:=clean_ev d (by omega) hd
  refine ⟨r,?_,h1,h2,?_,by omega⟩
  · refine Ev.step (fun q=>by simp only [octroiref01_Mul.l0];rw [if_neg (by omega)]) (Ev.bind (f:=fun _ t=>if (t.length:Int)>0 then some ((n1 != n2),t) else some (false,t)) he (evn fun k=>?_))
    cases r with
    | nil=>rfl
    | cons x r=>rw [if_pos (show ((x :: r).length:Int)>0 by simp only [List.length_cons];omega),if_neg (List.cons_ne_nil _ _)]
  · rw [h3,List.drop_eq_nil_of_le (by omega)];simp [dval]
 | succ m ih =>
  intro i d hi hd hl hz
  obtain ⟨d',g1,g2,g3,g4,g5⟩:=mul_inner n1 n2 a b ha hb la lb i (by omega) b.length 0 0 d (by omega) hd hl (by omega) (by omega) hz
  obtain ⟨r,he,h1,h2,h3,h4⟩:=ih (i+1) d' (by omega) g1 g2 g3
  refine ⟨r,?_,h1,h2,?_,h4⟩
  · refine Ev.step (fun q=>by simp only [octroiref01_Mul.l0];rw [if_pos (by omega)]) ?_
    exact g5 _ he
  · rw [h3,g4,drop_rd a i (by omega)]
    simp only [dval,List.drop_zero,Nat.add_zero,Int.zero_add,Int.pow_succ]
    rw [Int.add_mul,Int.mul_add,Int.mul_assoc (2147483648 ^ i) 2147483648,Int.mul_assoc 2147483648]
    omega
theorem mulD_ev:∃ r,Ev (fun k=>octroiref01_Mul.f k n1 a n2 b) (if r=[] then false else n1 != n2,r)∧Dig r∧NZ r∧dval r=dval a * dval b∧r.length≤a.length+b.length+1:=by
 obtain ⟨r,he,h1,h2,h3,h4⟩:=mul_outer n1 n2 a b ha hb la lb a.length 0 (List.replicate (a.length+b.length+1) 0) (by omega) (by intro d hd;rw [List.eq_of_mem_replicate hd];omega) (by simp) (by
  intro j hj
  rw [rd_nat,List.getD_eq_getElem?_getD,List.getElem?_replicate];split<;>rfl)
 refine ⟨r,Ev.congr (fun k=>?_) he,h1,h2,?_,h4⟩
 · have w1:wrap64 (wrap64 ((a.length:Int)+(b.length:Int))+1)=((a.length+b.length+1:Nat):Int):=by rw [w64 (x:=(a.length:Int)+b.length) (by omega) (by omega),w64 (by omega) (by omega)];omega
   unfold octroiref01_Mul.f
   rw [w1,if_pos (by omega),Int.toNat_natCast,if_pos (by omega)]
   rfl
 · rw [h3]
   have:dval (List.replicate (a.length+b.length+1) 0)=0:=by
    generalize a.length+b.length+1=n
    induction n with
    | zero=>rfl
    | succ n ih=>simp only [List.replicate_succ,dval,ih];rfl
   rw [this];simp
end
theorem dval_nil_iff {l:List Int} (h:Dig l) (hz:NZ l):l=[]↔dval l=0:=by
 constructor
 · intro e;rw [e];rfl
 · intro e
   apply Decidable.byContradiction
   intro hn
   have:=dval_ge h hz hn
   have:=pow_pos' (l.length - 1)
   omega
theorem mulN_ev (n1 n2:Bool) (l1 l2:List Int) (v1 v2:Int) (h1:IsNum n1 l1 v1) (h2:IsNum n2 l2 v2) (b1:l1.length≤1000000) (b2:l2.length≤1000000) :
 ∃ n l,Ev (fun k=>octroiref01_Mul.f k n1 l1 n2 l2) (n,l)∧IsNum n l (v1 * v2)∧l.length≤l1.length+l2.length+1:=by
 obtain ⟨r,he,r1,r2,r3,r4⟩:=mulD_ev n1 n2 l1 l2 h1.dig h2.dig b1 b2
 refine ⟨_,r,he,⟨r1,r2,?_,?_⟩,r4⟩
 · intro hn
   have hne:¬ r=[]:=by intro e;rw [if_pos e] at hn;cases hn
   have h0:=dval_0 r1
   have:¬ dval r=0:=fun e=>hne ((dval_nil_iff r1 r2).2 e)
   omega
 · have e1:=h1.val
   have e2:=h2.val
   by_cases hr:r=[]
   · rw [if_pos hr]
     have h0:=(dval_nil_iff r1 r2).1 hr
     rw [r3] at h0
     have hv:v1 * v2=0:=by
      rw [e1,e2]
      cases n1<;>cases n2<;>simp only [Int.neg_mul,Int.mul_neg,Int.neg_neg,h0,Bool.false_eq_true,if_true,if_false,Int.neg_zero]
     rw [hv,r3,h0];rfl
   · rw [if_neg hr,e1,e2,r3]
     cases n1<;>cases n2<;>simp [Int.neg_mul,Int.mul_neg]
theorem cmpN_ev (n1 n2:Bool) (l1 l2:List Int) (v1 v2:Int) (h1:IsNum n1 l1 v1) (h2:IsNum n2 l2 v2) (b1:l1.length≤1000000010) (b2:l2.length≤1000000010) :
 ∃ r,Ev (fun k=>octroiref01_Cmp.f k n1 l1 n2 l2) r∧(r<0↔v1<v2)∧(r≤0↔v1≤v2):=by
 obtain ⟨t,he,ht⟩:=cmp_ev l1 l2 h1.dig h2.dig h1.nz h2.nz b1 b2
 have d1:=dval_0 h1.dig
 have d2:=dval_0 h2.dig
 have e1:=h1.val
 have e2:=h2.val
 have p1:=h1.pos
 have p2:=h2.pos
 obtain ⟨t1,t2,t3,t4⟩:=ht
 have wt:wrap64 (-t) = -t:=w64 (by omega) (by omega)
 cases n1<;>cases n2
 · refine ⟨t,Ev.congr (fun k=>by unfold octroiref01_Cmp.f;rw [if_neg (by decide)]) (Ev.bind (f:=fun _ t=>if false=true then some (wrap64 (-t)) else some t) he (evn fun k=>by rw [if_neg (by decide)])),?_⟩
   simp at e1 e2;omega
 · refine ⟨1,evn fun k=>by unfold octroiref01_Cmp.f;rw [if_pos (by decide),if_neg (by decide)],?_⟩
   have:=p2 rfl
   simp at e1 e2;omega
 · refine ⟨-1,evn fun k=>by unfold octroiref01_Cmp.f;rw [if_pos (by decide),if_pos (by decide)],?_⟩
   have:=p1 rfl
   simp at e1 e2;omega
 · refine ⟨-t,Ev.congr (fun k=>by unfold octroiref01_Cmp.f;rw [if_neg (by decide)]) (Ev.bind (f:=fun _ t=>if true=true then some (wrap64 (-t)) else some t) he (evn fun k=>by rw [if_pos rfl,wt])),?_⟩
   have:=p1 rfl
   have:=p2 rfl
   simp at e1 e2;omega
end Go.Proofs.Ytlfkfajodnkkhaa.Print
namespace Go.Proofs.Ytlfkfajodnkkhaa.Print
open Go.RowKit Go.Proofs.YtlfkfajodnkkhaaW.PrintWords Go.Proofs.YtlfkfajodnkkhaaW.PrintLast Go.Proofs.YtlfkfajodnkkhaaW.PrintMore
set_option linter.unusedVariables false
set_option linter.unusedSimpArgs false
set_option linter.unusedSectionVars false
theorem quo_uniq {v D x:Int} (hD:0<D) (h1:x * D≤v) (h2:v<(x+1) * D):v / D=x:=by
 rw [Int.add_mul,Int.one_mul] at h2
 have e:v=(v - x * D)+x * D:=by omega
 rw [e,Int.add_mul_ediv_right _ _ (by omega),Int.ediv_eq_zero_of_lt (by omega) (by omega)]
 omega
theorem mid_facts {low high:Int} (h0:0≤low) (h1:low<high) (h2:high≤9223372036854775807) :
 wrap64 (high - wrap64 (Int.tdiv (wrap64 (high - low)) 2))=high - (high - low) / 2∧low<high - (high - low) / 2∧high - (high - low) / 2≤high∧wrap64 (high - (high - low) / 2 - 1)=high - (high - low) / 2 - 1:=by
 have w1:wrap64 (high - low)=high - low:=w64 (by omega) (by omega)
 have w2:Int.tdiv (high - low) 2=(high - low) / 2:=Int.tdiv_eq_ediv_of_nonneg (by omega)
 have w3:wrap64 ((high - low) / 2)=(high - low) / 2:=w64 (by omega) (by omega)
 rw [w1,w2,w3]
 refine ⟨w64 (by omega) (by omega),by omega,by omega,w64 (by omega) (by omega)⟩
section
variable (n dn:Bool) (l dl:List Int) (v D:Int) (hn:IsNum n l v) (hd:IsNum dn dl D) (ln:l.length≤1000000) (ld:dl.length≤1000) (hD:0<D)
include hn hd ln ld hD
theorem half_look (mid:Int) (m0:0≤mid) (m1:mid≤9223372036854775807) {α:Type} {F:Nat→Int→Option α} {R:α} (h1:mid * D≤v→∀ t,t≤0→Ev (fun k=>F k t) R) (h2:¬ mid * D≤v→∀ t,¬ t≤0→Ev (fun k=>F k t) R) :
 Ev (fun k=>(octroiref01_Of.f k mid).bind fun b=>(octroiref01_Mul.f k b.1 b.2 dn dl).bind fun c=>(octroiref01_Cmp.f k c.1 c.2 n l).bind fun t=>F k t) R:=by
 obtain ⟨n1,l1,e1,i1,b1⟩:=of_ev mid (by omega) (by omega)
 obtain ⟨n2,l2,e2,i2,b2⟩:=mulN_ev n1 dn l1 dl mid D i1 hd (by omega) (by omega)
 obtain ⟨t,e3,t1,t2⟩:=cmpN_ev n2 n l2 l (mid * D) v i2 hn (by omega) (by omega)
 refine Ev.bind (f:=fun k b=>(octroiref01_Mul.f k b.1 b.2 dn dl).bind fun c=>(octroiref01_Cmp.f k c.1 c.2 n l).bind fun t=>F k t) e1 ?_
 refine Ev.bind (f:=fun k c=>(octroiref01_Cmp.f k c.1 c.2 n l).bind fun t=>F k t) e2 ?_
 refine Ev.bind (f:=fun k t=>F k t) e3 ?_
 by_cases h:mid * D≤v
 · exact h1 h t (t2.2 h)
 · exact h2 h t (fun ht=>h (t2.1 ht))
theorem half_loop (m:Nat):∀ (low high:Int),0≤low→low≤high→high≤4611686018427387905→(high - low).toNat≤m→low * D≤v→v<(high+1) * D→
 Ev (fun k=>octroiref02_half.l0 k low high n l dn dl) (v / D):=by
 induction m with
 | zero =>
  intro low high h0 h1 h2 hm hl hh
  obtain rfl:low=high:=by omega
  rw [quo_uniq hD hl hh]
  exact Ev.step (f:=fun _=>some low) (fun k=>by simp only [octroiref02_half.l0];rw [if_neg (by omega)]) (Ev.now _)
 | succ m ih =>
  intro low high h0 h1 h2 hm hl hh
  by_cases hlt:low<high
  · obtain ⟨w1,w2,w3,w4⟩:=mid_facts h0 hlt (by omega)
    refine Ev.step (f:=fun k=>(octroiref01_Of.f k (high - (high - low) / 2)).bind fun b=>(octroiref01_Mul.f k b.1 b.2 dn dl).bind fun c=>(octroiref01_Cmp.f k c.1 c.2 n l).bind fun t =>
     if t≤0 then octroiref02_half.l0 k (high - (high - low) / 2) high n l dn dl else octroiref02_half.l0 k low (high - (high - low) / 2 - 1) n l dn dl) (fun k=>by simp only [octroiref02_half.l0];rw [if_pos hlt,w1,w4]) ?_
    refine half_look n dn l dl v D hn hd ln ld hD _ (by omega) (by omega) (F:=fun k t=>if t≤0 then octroiref02_half.l0 k (high - (high - low) / 2) high n l dn dl else octroiref02_half.l0 k low (high - (high - low) / 2 - 1) n l dn dl) ?_ ?_
    · intro hv t ht
      exact Ev.congr (fun k=>if_pos ht) (ih _ _ (by omega) (by omega) (by omega) (by omega) hv hh)
    · intro hv t ht
      refine Ev.congr (fun k=>if_neg ht) (ih _ _ (by omega) (by omega) (by omega) (by omega) hl ?_)
      rw [show high - (high - low) / 2 - 1+1=high - (high - low) / 2 by omega];omega
  · obtain rfl:low=high:=by omega
    rw [quo_uniq hD hl hh]
    exact Ev.step (f:=fun _=>some low) (fun k=>by simp only [octroiref02_half.l0];rw [if_neg (by omega)]) (Ev.now _)
end
theorem half_ev (n:Bool) (l:List Int) (v c:Int) (hn:IsNum n l v) (ln:l.length≤1000000) (v0:0≤v) (c1:1≤c) (c2:c≤4611686018427387904) :
 Ev (fun k=>octroiref02_half.f k n l c) (if 4611686018427387905 * (c * 2)≤v then -1 else v / (c * 2)):=by
 obtain ⟨n1,l1,e1,i1,b1⟩:=of_ev c (by omega) (by omega)
 obtain ⟨n2,l2,e2,i2,b2⟩:=of_ev 2 (by omega) (by omega)
 obtain ⟨n3,l3,e3,i3,b3⟩:=mulN_ev n1 n2 l1 l2 c 2 i1 i2 (by omega) (by omega)
 unfold octroiref02_half.f
 refine Ev.bind e1 ?_
 dsimp only
 refine Ev.bind e2 ?_
 dsimp only
 refine Ev.bind e3 ?_
 dsimp only
 refine half_look n n3 l l3 v (c * 2) hn i3 ln (by omega) (by omega) 4611686018427387905 (by decide) (by decide) (F:=fun k t222=>if t222≤0 then (some (-1)) else (octroiref02_half.l0 k 0 4611686018427387905 n l n3 l3)) ?_ ?_
 · intro hv t ht
   rw [if_pos hv]
   exact Ev.congr (fun k=>if_pos ht) (Ev.now _)
 · intro hv t ht
   rw [if_neg hv]
   have hD:0<c * 2:=by omega
   have hz:0 * (c * 2)≤v:=by rw [Int.zero_mul];exact v0
   have hh:v<(4611686018427387905+1) * (c * 2):=by rw [Int.add_mul];omega
   have l3':l3.length≤1000:=by omega
   have:=half_loop n n3 l l3 v (c * 2) hn i3 ln l3' hD (4611686018427387905 - 0:Int).toNat 0 4611686018427387905 (by decide) (by decide) (by decide) (Nat.le_refl _) hz hh
   exact Ev.congr (fun k=>if_neg ht) this
end Go.Proofs.Ytlfkfajodnkkhaa.Print
namespace Go.Proofs.Ytlfkfajodnkkhaa.Ax
open Go Go.RowKit Go.Proofs.Ytlfkfajodnkkhaa.Print Go.Proofs.YtlfkfajodnkkhaaW.PrintWords
set_option linter.unusedVariables false
set_option linter.unusedSimpArgs false
def res2I (x y:Int):Option SV:=some (.tup [.v (.int .i64 x),.v (.int .i64 y)])
noncomputable def mdE (y:Bool × List Int) (y6:Int):Option SV :=
 sel (decide (y6<0)) (res2I 0 3) (sel (!mayB y6) (res2I 0 3) (sel y.1 (res2I (IntKind.i64.wrap (0 - y6)) 0) (res2I y6 0)))
noncomputable def mdG (O:Int→Option (Bool × List Int)) (M A:Bool→List Int→Bool→List Int→Option (Bool × List Int)) (H:Bool→List Int→Int→Option Int) (a b c:Int):Option SV :=
 obnd (O a) fun y=>obnd (O b) fun y_1=>sel (okLen y.snd) (sel (okLen y_1.snd)
  (obnd (M y.fst y.snd y_1.fst y_1.snd) fun y=>obnd (O 2) fun y_2=>sel (okLen y.snd) (sel (okLen y_2.snd)
   (obnd (M false y.snd y_2.fst y_2.snd) fun y_3=>obnd (O c) fun y_4=>sel (okLen y_3.snd) (sel (okLen y_4.snd)
    (obnd (A y_3.fst y_3.snd y_4.fst y_4.snd) fun y_5=>sel (okLen y_5.snd) (obnd (H y_5.fst y_5.snd c) fun y_6=>mdE y y_6) none)
    none) none) none) none) none) none
theorem md_tree (k:Nat) (a b c:Int):evFn Try.prog (CRef k) cn0 8 Try.f42 [.v (.int .i64 a),.v (.int .i64 b),.v (.int .i64 c)] [] 0 K1 =
 sel (!mayB a) (res2I 0 2) (sel (!mayB b) (res2I 0 2) (sel (!mayB c) (res2I 0 2) (sel (decide (c<1)) (res2I 0 2) (mdG (octroiref01_Of.f k) (octroiref01_Mul.f k) (octroiref01_Add.f k) (octroiref02_half.f k) a b c)))):=by kernel_rfl
theorem okLen_of {l:List Int} (h:l.length≤1000000):okLen l=true:=Nat.ble_eq_true_of_le (Nat.le_trans h (by decide))
theorem wrapI64 {x:Int} (h1 : -9223372036854775808≤x) (h2:x<9223372036854775808):IntKind.i64.wrap x=x:=by
 rw [IntKind.wrap_i64];omega
theorem mdE_eq (a b c:Int) (hr:rightV a b c=true) (n:Bool) (l:List Int) (hn:IsNum n l (a * b)) (y:Int)
 (hy:y=if 4611686018427387905 * (c * 2)≤mag a * mag b * 2+c then -1 else (mag a * mag b * 2+c) / (c * 2)):mdE (n,l) y=res2I (mulDivV a b c).1 (mulDivV a b c).2:=by
 have hr':=hr
 rw [rightV_iff] at hr'
 obtain ⟨ha,hb,hc⟩:=hr'
 obtain ⟨P,hP⟩:∃ P,P=mag a * mag b:=⟨_,rfl⟩
 have hP0:0≤P:=by rw [hP];exact Int.mul_nonneg (mag_nn a) (mag_nn b)
 have hh:(P * 2+c) / (c * 2)=halfV P c:=by unfold halfV;rw [Int.mul_comm P 2,Int.mul_comm c 2]
 obtain ⟨s1,s2⟩:=half_spec P c (by omega)
 have s0:=half_nn P c hP0 (by omega)
 have hneg:=hn.neg
 obtain ⟨m1,m2⟩:=mag_mul a b
 unfold mulDivV
 rw [if_pos hr,← hP]
 rw [← hP,hh] at hy
 rw [← hP] at m1
 unfold mdE overV
 by_cases hbig:4611686018427387905 * (c * 2)≤P * 2+c
 · rw [if_pos hbig] at hy
   have hgt:¬ halfV P c≤4611686018427387904:=by
    intro hle
    have:2 * c * halfV P c≤2 * c * 4611686018427387904:=Int.mul_le_mul_of_nonneg_left hle (by omega)
    omega
   rw [if_neg hgt,hy];rfl
 · rw [if_neg hbig] at hy
   rw [hy,decide_eq_false (show ¬ halfV P c<0 by omega)]
   simp only [sel_false]
   by_cases hle:halfV P c≤4611686018427387904
   · rw [if_pos hle,(mayB_iff _).2 ⟨by omega,hle⟩]
     simp only [Bool.not_true,sel_false]
     rw [wrapI64 (by omega) (by omega),hneg]
     rcases m2 with m2|m2
     · have:P=0:=by rw [m1,m2];rfl
       have hz:halfV P c=0:=by rw [this];unfold halfV;exact Int.ediv_eq_zero_of_lt (by omega) (by omega)
       rw [hz,m2]
       cases decide (a<0)<;>cases decide (b<0)<;>rfl
     · rw [m2]
       cases decide (a<0)<;>cases decide (b<0)<;>simp [sel_true,sel_false]
   · have:mayB (halfV P c)=false:=by
      cases hm:mayB (halfV P c) with
      | false=>rfl
      | true=>rw [mayB_iff] at hm;omega
     rw [if_neg hle,this];rfl
theorem md_lens {x1 x2 x3 x4 x5 x6 x7:Nat} (b1:x1≤3) (b2:x2≤3) (b3:x3≤x1+x2+1) (b4:x4≤3) (b5:x5≤x3+x4+1) (b6:x6≤3) (b7:x7≤max x5 x6+1) :
 x1≤1000000∧x2≤1000000∧x3≤1000000∧x4≤1000000∧x5≤1000000∧x6≤1000000∧x7≤1000000:=by omega
theorem nn2 {p c:Int} (h:0≤p) (h2:1≤c):0≤p * 2+c:=by omega
theorem md_chain {O:Int→Option (Bool × List Int)} {M A:Bool→List Int→Bool→List Int→Option (Bool × List Int)} {H:Bool→List Int→Int→Option Int} {a b c y:Int} {n1 n2 n3 n4 n5 n6 n7:Bool} {l1 l2 l3 l4 l5 l6 l7:List Int} {R:Option SV} (k1:okLen l1=true) (k2:okLen l2=true) (k3:okLen l3=true) (k4:okLen l4=true) (k5:okLen l5=true) (k6:okLen l6=true) (k7:okLen l7=true)
 (e1:O a=some (n1,l1)) (e2:O b=some (n2,l2)) (e3:M n1 l1 n2 l2=some (n3,l3)) (e4:O 2=some (n4,l4)) (e5:M false l3 n4 l4=some (n5,l5)) (e6:O c=some (n6,l6)) (e7:A n5 l5 n6 l6=some (n7,l7)) (e8:H n7 l7 c=some y)
 (h:mdE (n3,l3) y=R):mdG O M A H a b c=R:=by
 simp only [mdG,e1,e2,obnd_some,k1,k2,k3,k4,k5,k6,k7,sel_true,e3,e4,e5,e6,e7,e8,h]
theorem ev8 {α1 α2 α3 α4 α5 α6 α7 α8:Type} {g1:Nat→Option α1} {g2:Nat→Option α2} {g3:Nat→Option α3} {g4:Nat→Option α4} {g5:Nat→Option α5} {g6:Nat→Option α6} {g7:Nat→Option α7} {g8:Nat→Option α8} {x1 x2 x3 x4 x5 x6 x7 x8}
 (e1:Ev g1 x1) (e2:Ev g2 x2) (e3:Ev g3 x3) (e4:Ev g4 x4) (e5:Ev g5 x5) (e6:Ev g6 x6) (e7:Ev g7 x7) (e8:Ev g8 x8) :
 ∃ k,g1 k=some x1∧g2 k=some x2∧g3 k=some x3∧g4 k=some x4∧g5 k=some x5∧g6 k=some x6∧g7 k=some x7∧g8 k=some x8:=by
 obtain ⟨K1,e1⟩:=e1
 obtain ⟨K2,e2⟩:=e2
 obtain ⟨K3,e3⟩:=e3
 obtain ⟨K4,e4⟩:=e4
 obtain ⟨K5,e5⟩:=e5
 obtain ⟨K6,e6⟩:=e6
 obtain ⟨K7,e7⟩:=e7
 obtain ⟨K8,e8⟩:=e8
 exact ⟨K1+K2+K3+K4+K5+K6+K7+K8,e1 _ (by omega),e2 _ (by omega),e3 _ (by omega),e4 _ (by omega),e5 _ (by omega),e6 _ (by omega),e7 _ (by omega),e8 _ (by omega)⟩
theorem md_ev (a b c:Int) (hr:rightV a b c=true):∃ k,mdG (octroiref01_Of.f k) (octroiref01_Mul.f k) (octroiref01_Add.f k) (octroiref02_half.f k) a b c=res2I (mulDivV a b c).1 (mulDivV a b c).2:=by
 have hr':=hr
 rw [rightV_iff] at hr'
 obtain ⟨n1,l1,e1,i1,b1⟩:=of_ev a (by omega) (by omega)
 obtain ⟨n2,l2,e2,i2,b2⟩:=of_ev b (by omega) (by omega)
 obtain ⟨n3,l3,e3,i3,b3⟩:=mulN_ev n1 n2 l1 l2 a b i1 i2 (by omega) (by omega)
 obtain ⟨n4,l4,e4,i4,b4⟩:=of_ev 2 (by omega) (by omega)
 have i3':IsNum false l3 (dval l3):=⟨i3.dig,i3.nz,(fun h=>by cases h),(by simp)⟩
 obtain ⟨n5,l5,e5,i5,b5⟩:=mulN_ev false n4 l3 l4 (dval l3) 2 i3' i4 (by omega) (by omega)
 obtain ⟨n6,l6,e6,i6,b6⟩:=of_ev c (by omega) (by omega)
 obtain ⟨n7,l7,e7,i7,b7⟩:=add_ev n5 n6 l5 l6 (dval l3 * 2) c i5 i6 (by omega) (by omega)
 obtain ⟨c1,c2,c3,c4,c5,c6,c7⟩:=md_lens b1 b2 b3 b4 b5 b6 b7
 have k1:okLen l1=true:=okLen_of c1
 have k2:okLen l2=true:=okLen_of c2
 have k3:okLen l3=true:=okLen_of c3
 have k4:okLen l4=true:=okLen_of c4
 have k5:okLen l5=true:=okLen_of c5
 have k6:okLen l6=true:=okLen_of c6
 have k7:okLen l7=true:=okLen_of c7
 have hc1:1≤c:=hr'.2.2.1
 have hc2:c≤4611686018427387904:=hr'.2.2.2
 clear b1 b2 b3 b4 b5 b6 b7 hr'
 have hv:dval l3=mag a * mag b:=by rw [i3.abs,(mag_mul a b).1]
 have hP0:0≤mag a * mag b:=Int.mul_nonneg (mag_nn a) (mag_nn b)
 rw [hv] at i7
 have e8:=half_ev n7 l7 (mag a * mag b * 2+c) c i7 c7 (nn2 hP0 hc1) hc1 hc2
 obtain ⟨k,f1,f2,f3,f4,f5,f6,f7,f8⟩:=ev8 e1 e2 e3 e4 e5 e6 e7 e8
 exact ⟨k,md_chain k1 k2 k3 k4 k5 k6 k7 f1 f2 f3 f4 f5 f6 f7 f8 (mdE_eq a b c hr n3 l3 i3 _ rfl)⟩
theorem refMulDiv_ev (a b c:Int):∃ k,evFn Try.prog (CRef k) cn0 8 Try.f42 [.v (.int .i64 a),.v (.int .i64 b),.v (.int .i64 c)] [] 0 K1=some (.tup [.v (.int .i64 (mulDivV a b c).1),.v (.int .i64 (mulDivV a b c).2)]):=by
 cases hr:rightV a b c with
 | false =>
  refine ⟨0,?_⟩
  rw [md_tree]
  have hm:mulDivV a b c=(0,2):=by unfold mulDivV;rw [hr];rfl
  rw [hm]
  have hr':(mayB a && (mayB b && (mayB c && decide (1≤c))))=false:=hr
  cases h1:mayB a with
  | false=>rfl
  | true =>
   cases h2:mayB b with
   | false=>rfl
   | true =>
    cases h3:mayB c with
    | false=>rfl
    | true =>
     rw [h1,h2,h3] at hr'
     simp at hr'
     rw [decide_eq_true (show c<1 by omega)];rfl
 | true =>
  obtain ⟨K,hK⟩:=md_ev a b c hr
  refine ⟨K,?_⟩
  rw [md_tree]
  have hr':=hr
  rw [rightV_iff] at hr'
  rw [(mayB_iff a).2 (by omega),(mayB_iff b).2 (by omega),(mayB_iff c).2 (by omega),decide_eq_false (show ¬ c<1 by omega)]
  exact hK
end Go.Proofs.Ytlfkfajodnkkhaa.Ax
namespace Go.Proofs.Ytlfkfajodnkkhaa.Print
open Go Go.RowKit Go.Proofs.Ytlfkfajodnkkhaa.Ax
def octroiref02_MulDiv.f (a b c:Int):Option (Int × Int):=some (mulDivV a b c)
theorem octroiref02_MulDiv.calls (a b c r1 r2:Int) (w:World) (h:octroiref02_MulDiv.f a b c=some (r1,r2)) :
 Calls Try.prog 42 #[.int .i64 a,.int .i64 b,.int .i64 c] w fun e w'=>e = .returned (.tuple #[.int .i64 r1,.int .i64 r2])∧Below w.heap.size w w':=by
 have hv:mulDivV a b c=(r1,r2):=Option.some.inj h
 obtain ⟨k,hk⟩:=refMulDiv_ev a b c
 rw [hv] at hk
 exact calls_of_ev mixed Try.func42 (by kernel_rfl) rfl (CRef_ok k) (fun B' w=>cn0_ok B' w _) hk rfl rfl rfl rho0 w
end Go.Proofs.Ytlfkfajodnkkhaa.Print
namespace Go.Proofs.Ytlfkfajodnkkhaa.Ax
open Go Go.RowKit
set_option linter.unusedVariables false
set_option linter.unusedSimpArgs false
theorem half_le (p c n:Int) (hc:0<c) (h:p≤c * n):halfV p c≤n:=by
 obtain ⟨h1,h2⟩:=half_spec p c hc
 apply Decidable.byContradiction
 intro hn
 have h3:2 * c * (n+1)≤2 * c * halfV p c:=Int.mul_le_mul_of_nonneg_left (by omega) (by omega)
 have h4:2 * c * (n+1)=2 * (c * n)+2 * c:=by rw [Int.mul_add,Int.mul_assoc];omega
 omega
theorem mul_le_mag (m b:Int) (hm:0≤m) (hb:0≤b∧b≤10000) (c:Int) (hc:10000≤c) (hbc:b≤c):halfV (m * b) c≤m:=by
 refine half_le _ _ _ (by omega) ?_
 rw [Int.mul_comm c m]
 exact Int.mul_le_mul_of_nonneg_left hbc hm
theorem mulDiv_ok (a b c:Int) (ha:mayB a=true) (hb:0≤b∧b≤10000) (hc:10000≤c∧c≤20000) (hbc:b≤c):(mulDivV a b c).2=0:=by
 have h:=(mayB_iff a).1 ha
 have hr:rightV a b c=true:=by rw [rightV_iff];omega
 unfold mulDivV
 rw [if_pos hr]
 have m1:=mag_bd h
 have m2:mag b=b:=by unfold mag;rw [if_neg (by omega)]
 rw [m2]
 have:=mul_le_mag (mag a) b m1.1 hb c hc.1 hbc
 unfold overV
 rw [if_pos (by omega)]
theorem taxV_ok (a b:Int) (ha:mayB a=true) (hb:bpB b=true):(taxV a b).2=0:=by
 have h:=(bpB_iff b).1 hb
 unfold taxV
 rw [hb]
 exact mulDiv_ok a b 10000 ha h (by omega) (by omega)
theorem insideV_ok (a b:Int) (ha:mayB a=true) (hb:bpB b=true):(insideV a b).2=0:=by
 have h:=(bpB_iff b).1 hb
 unfold insideV
 rw [hb]
 exact mulDiv_ok a b (10000+b) ha h (by omega) (by omega)
theorem mulDiv_no (a b c:Int) (h:(mayB a && mayB b && mayB c && decide (1≤c))=false):mulDivV a b c=(0,2):=by
 have:rightV a b c=false:=by
  unfold rightV
  cases h1:mayB a<;>cases h2:mayB b<;>cases h3:mayB c<;>cases h4:decide (1≤c)<;>rw [h1,h2,h3,h4] at h<;>first|rfl|cases h
 unfold mulDivV
 rw [this];rfl
end Go.Proofs.Ytlfkfajodnkkhaa.Ax
namespace Go.Proofs.Ytlfkfajodnkkhaa.Iv
open Go Go.RowKit Go.Proofs.YtlfkfajodnkkhaaW.PrintWords Go.Proofs.Ytlfkfajodnkkhaa.Ax Go.Proofs.Ytlfkfajodnkkhaa.Sh
set_option linter.unusedVariables false
set_option linter.unusedSimpArgs false
theorem cRMD_ok (B):ConOk Try.prog B 42 Ax.cMulDiv:=by
 intro args ρ h w lo out ids hr hrh hfr hfa up
 unfold Ax.cMulDiv at hr
 split at hr
 · rename_i a b c
   cases hr
   exact gives_same (s:=.tup [.v (.int .i64 (Ax.mulDivV a b c).1),.v (.int .i64 (Ax.mulDivV a b c).2)]) (fn:=Try.f42) Try.func42 (by kernel_rfl) (by kernel_rfl) hrh up (Print.octroiref02_MulDiv.calls a b c _ _ w rfl)
 · cases hr
noncomputable def CRt:FuncId→Option Con
 | 42=>some Ax.cMulDiv
 | _=>none
theorem CRt_ok:∀ B' g φ,CRt g=some φ→ConOk Try.prog B' g φ:=by
 intro B' g φ h
 unfold CRt at h
 split at h
 · cases h;exact cRMD_ok B'
 · cases h
def bpT (b:Int) (x:Option (Int × Int × Unit)):Option (Int × Int × Unit):=sel (decide (b<0)) (some (0,2,())) (sel (decide (10000<b)) (some (0,2,())) x)
theorem rtax_tree (a b:Int):evX Try.prog CRt Sh.cn0 40 Try.f20 [qInt,qInt] [qInt,qInt] (a,b,())=bpT b (some ((Ax.mulDivV a b 10000).1,(Ax.mulDivV a b 10000).2,())):=by kernel_rfl
theorem rins_tree (a b:Int):evX Try.prog CRt Sh.cn0 40 Try.f19 [qInt,qInt] [qInt,qInt] (a,b,())=bpT b (some ((Ax.mulDivV a b (Sh.IT.wrap (10000+b))).1,(Ax.mulDivV a b (Sh.IT.wrap (10000+b))).2,())):=by kernel_rfl
theorem bpT_no {b:Int} {x:Option (Int × Int × Unit)} (h:Ax.bpB b=false):bpT b x=some (0,2,()):=by
 unfold bpT
 by_cases h1:b<0
 · rw [decide_eq_true h1];rfl
 · by_cases h2:10000<b
   · rw [decide_eq_true h2];cases decide (b<0)<;>rfl
   · exact absurd ((Ax.bpB_iff b).2 (by omega)) (by rw [h];decide)
theorem bpT_yes {b:Int} {x:Option (Int × Int × Unit)} (h:Ax.bpB b=true):bpT b x=x:=by
 have:=(Ax.bpB_iff b).1 h
 unfold bpT
 rw [decide_eq_false (by omega),decide_eq_false (by omega)];rfl
theorem rtax_run (a b:Int):evX Try.prog CRt Sh.cn0 40 Try.f20 [qInt,qInt] [qInt,qInt] (a,b,())=some ((Ax.taxV a b).1,(Ax.taxV a b).2,()):=by
 rw [rtax_tree]
 unfold Ax.taxV
 cases h:Ax.bpB b with
 | false=>rw [bpT_no h];rfl
 | true=>rw [bpT_yes h];rfl
theorem rins_run (a b:Int):evX Try.prog CRt Sh.cn0 40 Try.f19 [qInt,qInt] [qInt,qInt] (a,b,())=some ((Ax.insideV a b).1,(Ax.insideV a b).2,()):=by
 rw [rins_tree]
 unfold Ax.insideV
 cases h:Ax.bpB b with
 | false=>rw [bpT_no h];rfl
 | true =>
  have:=(Ax.bpB_iff b).1 h
  rw [bpT_yes h,show Sh.IT.wrap (10000+b)=10000+b from by rw [show Sh.IT.wrap (10000+b)=IntKind.i64.wrap (10000+b) from rfl,IntKind.wrap_i64];omega];rfl
noncomputable def cRTax:Con:=conX [qInt,qInt] [qInt,qInt] fun x=>some ((Ax.taxV x.1 x.2.1).1,(Ax.taxV x.1 x.2.1).2,())
theorem cRTax_ok (B):ConOk Try.prog B 20 cRTax :=
 toldP (lin:=[qInt,qInt]) (lout:=[qInt,qInt]) CRt_ok Try.func20 (by kernel_rfl) (by kernel_rfl) (fun x=>some ((Ax.taxV x.1 x.2.1).1,(Ax.taxV x.1 x.2.1).2,())) (fun x y h=>by
  obtain ⟨a,b,u⟩:=x
  exact (rtax_run a b).trans h) (by decide) B
noncomputable def cRIns:Con:=conX [qInt,qInt] [qInt,qInt] fun x=>some ((Ax.insideV x.1 x.2.1).1,(Ax.insideV x.1 x.2.1).2,())
theorem cRIns_ok (B):ConOk Try.prog B 19 cRIns :=
 toldP (lin:=[qInt,qInt]) (lout:=[qInt,qInt]) CRt_ok Try.func19 (by kernel_rfl) (by kernel_rfl) (fun x=>some ((Ax.insideV x.1 x.2.1).1,(Ax.insideV x.1 x.2.1).2,())) (fun x y h=>by
  obtain ⟨a,b,u⟩:=x
  exact (rins_run a b).trans h) (by decide) B
noncomputable def CRp:FuncId→Option Con
 | 18=>some Ax.cMayR
 | 20=>some cRTax
 | 19=>some cRIns
 | 13=>some Ax.cSumX
 | _=>none
theorem CRp_ok:∀ B' g φ,CRp g=some φ→ConOk Try.prog B' g φ:=by
 intro B' g φ h
 unfold CRp at h
 split at h
 · cases h;exact Ax.cMayR_ok B'
 · cases h;exact cRTax_ok B'
 · cases h;exact cRIns_ok B'
 · cases h;exact Ax.rSum_ok B'
 · cases h
abbrev O3:=Option (Int × Int × Int × Unit)
theorem rpart_tree (a:Int) (g:Bool) (b:Int):evX Try.prog CRp Sh.cn0 40 Try.f8 [qInt,qBool,qInt] [qInt,qInt,qInt] (a,g,b,()) =
 (sel (!Ax.mayB a) (some (0,0,2,())) (sel (decide (b<0)) (some (0,0,2,())) (sel (decide (10000<b)) (some (0,0,2,()))
  (sel g (some (Sh.IT.wrap (a - (Ax.insideV a b).1),(Ax.insideV a b).1,0,()))
   (sel ((Ax.smV [a,(Ax.taxV a b).1]).2 != 0) (some (0,0,(Ax.smV [a,(Ax.taxV a b).1]).2,())) (some (a,(Ax.taxV a b).1,0,())))))):O3):=by kernel_rfl
theorem part_no (a:Int) (g:Bool) (b:Int) (h:Ax.mayB a=false∨Ax.bpB b=false):Ax.partV a g b=(0,0,2):=by
 have ht:Ax.taxV a b=(0,2):=by
  unfold Ax.taxV
  rcases h with h|h
  · cases Ax.bpB b with
    | false=>rfl
    | true=>exact Ax.mulDiv_no _ _ _ (by rw [h];rfl)
  · rw [h];rfl
 have hi:Ax.insideV a b=(0,2):=by
  unfold Ax.insideV
  rcases h with h|h
  · cases Ax.bpB b with
    | false=>rfl
    | true=>exact Ax.mulDiv_no _ _ _ (by rw [h];rfl)
  · rw [h];rfl
 cases g with
 | true=>show Ax.insV a b=_;unfold Ax.insV;rw [hi];rfl
 | false=>show Ax.uponV a b=_;unfold Ax.uponV;rw [ht];rfl
theorem rpart_run (a:Int) (g:Bool) (b:Int):evX Try.prog CRp Sh.cn0 40 Try.f8 [qInt,qBool,qInt] [qInt,qInt,qInt] (a,g,b,())=some ((Ax.partV a g b).1,(Ax.partV a g b).2.1,(Ax.partV a g b).2.2,()):=by
 rw [rpart_tree]
 cases ha:Ax.mayB a with
 | false=>rw [part_no a g b (.inl ha)];rfl
 | true =>
  rw [show (!true)=false from rfl,sel_false]
  cases hb:Ax.bpB b with
  | false =>
   rw [part_no a g b (.inr hb)]
   by_cases h1:b<0
   · rw [decide_eq_true h1];rfl
   · by_cases h2:10000<b
     · rw [decide_eq_true h2,decide_eq_false h1];rfl
     · exact absurd ((Ax.bpB_iff b).2 (by omega)) (by rw [hb];decide)
  | true =>
   have:=(Ax.bpB_iff b).1 hb
   rw [decide_eq_false (by omega),decide_eq_false (by omega),sel_false,sel_false]
   cases g with
   | true =>
    rw [sel_true]
    show _=some ((Ax.insV a b).1,(Ax.insV a b).2.1,(Ax.insV a b).2.2,())
    unfold Ax.insV
    rw [Ax.insideV_ok a b ha hb];rfl
   | false =>
    rw [sel_false]
    show _=some ((Ax.uponV a b).1,(Ax.uponV a b).2.1,(Ax.uponV a b).2.2,())
    unfold Ax.uponV
    rw [Ax.taxV_ok a b ha hb]
    cases (Ax.smV [a,(Ax.taxV a b).1]).2 != 0<;>rfl
noncomputable def cRPart:Con:=conX [qInt,qBool,qInt] [qInt,qInt,qInt] fun x=>some ((Ax.partV x.1 x.2.1 x.2.2.1).1,(Ax.partV x.1 x.2.1 x.2.2.1).2.1,(Ax.partV x.1 x.2.1 x.2.2.1).2.2,())
theorem cRPart_ok (B):ConOk Try.prog B 8 cRPart :=
 toldP (lin:=[qInt,qBool,qInt]) (lout:=[qInt,qInt,qInt]) CRp_ok Try.func8 (by kernel_rfl) (by kernel_rfl) (fun x=>some ((Ax.partV x.1 x.2.1 x.2.2.1).1,(Ax.partV x.1 x.2.1 x.2.2.1).2.1,(Ax.partV x.1 x.2.1 x.2.2.1).2.2,())) (fun x y h=>by
  obtain ⟨a,g,b,u⟩:=x
  exact (rpart_run a g b).trans h) (by decide) B
end Go.Proofs.Ytlfkfajodnkkhaa.Iv
namespace Go.Proofs.Ytlfkfajodnkkhaa.Iv
open Go Go.RowKit Go.Proofs.YtlfkfajodnkkhaaW.PrintWords Go.Proofs.Ytlfkfajodnkkhaa.Ax Go.Proofs.Ytlfkfajodnkkhaa.Sh
set_option linter.unusedVariables false
set_option linter.unusedSimpArgs false
noncomputable def CAl (gO:List Item→OP):FuncId→Option Con
 | 6=>some cLives
 | 7=>some (conX [qItems] [qParts,qInt] fun x=>gO x.1)
 | 8=>some cRPart
 | _=>none
theorem CAl_ok:∀ B' g φ,CAl invOf g=some φ→ConOk Try.prog B' g φ:=by
 intro B' g φ h
 unfold CAl at h
 split at h
 · cases h;exact cLives_ok B'
 · cases h;exact cInvOf_ok B'
 · cases h;exact cRPart_ok B'
 · cases h
noncomputable abbrev fAl:Func:=Try.f3
def TAl:Nat→Option (List Nat × List (Nat × TypeId × List Sc))
 | 7=>some ([0,3,36,37,38],[])
 | 11=>some ([0,3,5,6,7,36,37,38,43,44,45],[])
 | _=>none
def boxIA (x:Item):AObj:=.cells tIt [vi x.1,vi x.2.1,vb x.2.2.1,vi x.2.2.2]
noncomputable def A7 (gO:List Item→OP) (F kk:Nat) (l:List Item) (a:List PartT) (n i:Int):OB:=loopAt (eff Try.prog (CAl gO)) fAl.ntmps (cnRow 1 TAl) F Try.prog fAl (KX [qBool]) [.R,.R,.R,.R,.L,.R,.D] kk
 ⟨[(0,.all 0),(3,.all 1),(36,.all 0),(37,vi n),(38,vi i)],[(0,.arg sIt l),(1,.row tPt sPt a)],3⟩
noncomputable def A11 (gO:List Item→OP) (F ko k:Nat) (l:List Item) (a:List PartT) (n i:Int) (x:Item) (c n2 j:Int):OB:=loopIn (eff Try.prog (CAl gO)) fAl.ntmps (cnRow 1 TAl) F Try.prog fAl (KX [qBool]) [.R,.R,.R,.R,.L,.R,.D] [.R,.R,.L,.D,.R,.R,.L,.R,.D] ko k
 ⟨[(0,.all 0),(3,.all 1),(5,vi i),(6,.ptr 2 0),(7,vi c),(36,.all 0),(37,vi n),(38,vi i),(43,.all 0),(44,vi n2),(45,vi j)],[(0,.arg sIt l),(1,.row tPt sPt a),(2,boxIA x)],4⟩
def restA (a:List PartT) (i:Int) (x:Item) (c:Int) (K:OB):OB:=sel (c == 1) (sel ((Ax.partV x.1 x.2.2.1 x.2.2.2).2.2 != 0) oF (Sh.idxP a i (sel (!((rPt a i).1 == (Ax.partV x.1 x.2.2.1 x.2.2.2).1 && ((rPt a i).2 == (Ax.partV x.1 x.2.2.1 x.2.2.2).2.1 && true))) oF K))) K
theorem A7_eq (gO:List Item→OP) (F kk:Nat) (l:List Item) (a:List PartT) (n i:Int):A7 gO F (kk+1) l a n i =
 sel (decide (i<n)) (Sh.idxP l i (A11 gO F kk F l a n i (rIt l i) 0 (l.length:Int) 0)) oT:=by kernel_rfl
theorem A11_eq (gO:List Item→OP) (F ko k:Nat) (l:List Item) (a:List PartT) (n i:Int) (x:Item) (c n2 j:Int):A11 gO F ko (k+1) l a n i x c n2 j =
 sel (decide (j<n2)) (Sh.idxP l j (sel ((rIt l j).2.2.1 == x.2.2.1) (sel ((rIt l j).2.2.2 == x.2.2.2)
  (A11 gO F ko k l a n i x (Sh.IT.wrap (c+1)) n2 (Sh.IT.wrap (j+1)))
  (A11 gO F ko k l a n i x c n2 (Sh.IT.wrap (j+1)))) (A11 gO F ko k l a n i x c n2 (Sh.IT.wrap (j+1)))))
  (restA a i x c (A7 gO F ko l a n (Sh.IT.wrap (i+1)))):=by kernel_rfl
theorem alone_tree (gO:List Item→OP) (F:Nat) (l:List Item):evX Try.prog (CAl gO) (cnRow 1 TAl) F fAl [qItems] [qBool] (l,()) =
 sel (decide (100<(l.length:Int))) oT (obnd (gO l) fun a=>sel (a.2.1 != 0) (sel (a.2.1 != 0) oT oF)
  (sel ((a.1.length:Int) != (l.length:Int)) (sel (a.2.1 != 0) oT oF) (A7 gO F F l a.1 (l.length:Int) 0))):=by kernel_rfl
end Go.Proofs.Ytlfkfajodnkkhaa.Iv
namespace Go.Proofs.Ytlfkfajodnkkhaa.Iv
open Go Go.RowKit Go.Proofs.YtlfkfajodnkkhaaW.PrintWords Go.Proofs.Ytlfkfajodnkkhaa.Ax Go.Proofs.Ytlfkfajodnkkhaa.Sh
set_option linter.unusedVariables false
set_option linter.unusedSimpArgs false
theorem invOf_eq {l:List Item} (h:l.length≤1000):invOf l=(eachOfV l (List.replicate l.length (0,0))).bind fun y=>bif y.1 != 0 then some ([],y.1,()) else some (y.2,0,()):=by
 unfold invOf
 rw [Nat.ble_eq_true_of_le h];rfl
theorem inv_cases (l:List Item) (hl:l.length≤1000):(∃ e,e≠0∧invOf l=some ([],e,())∧invSums l=some ([],e,()))∨
 (rightB l=true∧∃ fin out,invOf l=some (out,0,())∧invSums l=some (fin,0,())∧fin.length=(grpsV l 0 []).length∧(∀ p∈(grpsV l 0 []).zip fin,GrpOk l p.1∧SumOk l p.1 p.2)∧out.length=l.length∧
  ∀ p∈(grpsV l 0 []).zip fin,p.1.2.map (rPt out)=List.zipWith (pv p.1.1.1 l) p.1.2 (taxesF p.1.2 l p.2)):=by
 rw [invOf_eq hl]
 unfold invSums eachOfV eachSmV
 cases hr:rightB l with
 | false=>exact .inl ⟨2,by decide,rfl,rfl⟩
 | true =>
  obtain ⟨fin,e,h1,h2⟩:=inv_ok hr
  rw [h1]
  by_cases he:e=0
  · obtain ⟨k1,k2,out,k3,k4,k5⟩:=h2 he
    subst he
    refine .inr ⟨rfl,fin,out,?_,rfl,k1,k2,k4,k5⟩
    show (Option.bind (Option.map (fun f=>((0:Int),f)) (doAll l (grpsV l 0 []) fin (List.replicate l.length (0,0)))) fun y=>bif y.1 != 0 then some (([]:List PartT),y.1,()) else some (y.2,(0:Int),()))=_
    rw [k3];rfl
  · refine .inl ⟨e,he,?_,?_⟩
    · show (Option.bind (bif e != 0 then some (e,List.replicate l.length ((0,0):PartT)) else _) fun y=>bif y.1 != 0 then some (([]:List PartT),y.1,()) else some (y.2,(0:Int),()))=_
      have hb:(e != 0)=true:=by simp [he]
      rw [hb]
      show (bif e != 0 then some (([]:List PartT),e,()) else _)=_
      rw [hb];rfl
    · show Option.map _ (bif e != 0 then some (e,([]:List SumT)) else _)=_
      have hb:(e != 0)=true:=by simp [he]
      rw [hb];rfl
theorem bne_ii (x:Int):(x != x)=false:=by simp
end Go.Proofs.Ytlfkfajodnkkhaa.Iv
namespace Go.Proofs.Ytlfkfajodnkkhaa.Iv
open Go Go.RowKit Go.Proofs.YtlfkfajodnkkhaaW.PrintWords Go.Proofs.Ytlfkfajodnkkhaa.Ax Go.Proofs.Ytlfkfajodnkkhaa.Sh
set_option linter.unusedVariables false
set_option linter.unusedSimpArgs false
structure SumIs (l:List Item) (g:GV) (s:SumT):Prop where
 sm:Ax.smV (amts l g.2)=((amts l g.2).sum,0)
 e:(Ax.partV (amts l g.2).sum g.1.1 g.1.2).2.2=0
 v:s=(g.1.1,g.1.2,(Ax.partV (amts l g.2).sum g.1.1 g.1.2).1,(Ax.partV (amts l g.2).sum g.1.1 g.1.2).2.1)
theorem smV_amts {l:List Item} {g:GV} (G:GrpOk l g):Ax.smV (amts l g.2)=bif Ax.mayB (amts l g.2).sum then ((amts l g.2).sum,0) else (0,3):=by
 have hb:∀ x∈amts l g.2,0≤x∧x≤4611686018427387904:=by
  intro x hx
  obtain ⟨i,hi,rfl⟩:=List.mem_map.1 hx
  have:=mayI_d (G.may i hi)
  exact ⟨this.1,this.2.1⟩
 have hall:(amts l g.2).all Ax.mayB=true:=List.all_eq_true.2 fun x hx=>may_iff.2 (by have:=hb x hx;omega)
 have e:Ax.smV (amts l g.2)=(bif (amts l g.2).all Ax.mayB then (bif Ax.mayB (amts l g.2).sum then ((amts l g.2).sum,0) else (0,3)) else (0,2)):=rfl
 rw [e,hall];rfl
theorem gs_cases {l:List Item} {g:GV} (G:GrpOk l g):(∃ e,e≠0∧gsV g.1.1 g.1.2 g.2 l=some ((false,0,0,0),e,())∧(if (Ax.smV (amts l g.2)).2≠0 then (Ax.smV (amts l g.2)).2 else (Ax.partV (Ax.smV (amts l g.2)).1 g.1.1 g.1.2).2.2)=e)∨
 ∃ s,gsV g.1.1 g.1.2 g.2 l=some (s,0,())∧SumIs l g s:=by
 have hlen:(amts l g.2).length≤1000000:=by unfold amts;rw [List.length_map];have:=G.len;omega
 have hsm:=smV_amts G
 unfold gsV
 rw [G.ok,cond_true]
 unfold restG
 rw [Nat.ble_eq_true_of_le hlen,sel_true]
 cases hm:Ax.mayB (amts l g.2).sum with
 | false =>
  rw [hm,cond_false] at hsm
  refine .inl ⟨3,by decide,?_,?_⟩
  · rw [hsm];rfl
  · rw [hsm];rfl
 | true =>
  rw [hm,cond_true] at hsm
  rw [hsm]
  dsimp only
  rw [show ((0:Int) != 0)=false from rfl,sel_false,if_neg (by simp)]
  cases hp:(Ax.partV (amts l g.2).sum g.1.1 g.1.2).2.2 != 0 with
  | true=>exact .inl ⟨_,by simpa using hp,rfl,rfl⟩
  | false=>exact .inr ⟨_,rfl,hsm,by simpa using hp,rfl⟩
theorem sums_is (l:List Item):∀ (gs:List GV) (acc fin:List SumT),(∀ g∈gs,GrpOk l g)→sumsF l gs acc=some (fin,0)→∃ ss,fin=acc ++ ss∧ss.length=gs.length∧∀ p∈gs.zip ss,SumIs l p.1 p.2
 | [],acc,fin,_,h=>by
  have h:some (acc,(0:Int))=some (fin,0):=h
  cases h
  exact ⟨[],by simp,rfl,fun p hp=>by cases hp⟩
 | g :: gs,acc,fin,hg,h=>by
  have h:((gsV g.1.1 g.1.2 g.2 l).bind fun y=>bif y.2.1 != 0 then some (acc,y.2.1) else sumsF l gs (acc ++ [y.1]))=some (fin,0):=h
  rcases gs_cases (hg g (by simp)) with ⟨e,he,h1,_⟩|⟨s,h1,h2⟩
  · rw [h1] at h
    have hb:(e != 0)=true:=by simp [he]
    have h:(bif e != 0 then some (acc,e) else sumsF l gs (acc ++ [(false,0,0,0)]))=some (fin,0):=h
    rw [hb] at h
    have h:some (acc,e)=some (fin,0):=h
    cases h
    exact absurd rfl he
  · rw [h1] at h
    have h:sumsF l gs (acc ++ [s])=some (fin,0):=h
    obtain ⟨ss,r1,r2,r3⟩:=sums_is l gs (acc ++ [s]) fin (fun x hx=>hg x (by simp [hx])) h
    refine ⟨s :: ss,by rw [r1,List.append_assoc];rfl,by simp [r2],fun p hp=>?_⟩
    rw [List.zip_cons_cons] at hp
    rcases List.mem_cons.1 hp with rfl|hp
    · exact h2
    · exact r3 p hp
theorem invSums_each {l:List Item} {fin:List SumT} (hr:rightB l=true) (h:invSums l=some (fin,0,())):eachS l=some (fin,0):=by
 unfold invSums eachSmV at h
 rw [hr] at h
 cases he:eachS l with
 | none=>rw [he] at h;cases h
 | some y =>
  rw [he] at h
  obtain ⟨f,e⟩:=y
  have h:Option.map (fun y:Int × List SumT=>(y.2,y.1,())) (bif e != 0 then some (e,[]) else some (0,f))=some (fin,0,()):=h
  by_cases hz:e=0
  · subst hz
    have h:some (f,(0:Int),())=some (fin,0,()):=h
    cases h;rfl
  · have hb:(e != 0)=true:=by simp [hz]
    rw [hb] at h
    have h:some (([]:List SumT),e,())=some (fin,0,()):=h
    cases h
    exact absurd rfl hz
theorem sum_is {l:List Item} {fin:List SumT} (hr:rightB l=true) (h:invSums l=some (fin,0,())):∀ p∈(grpsV l 0 []).zip fin,SumIs l p.1 p.2:=by
 obtain ⟨ss,r1,r2,r3⟩:=sums_is l (grpsV l 0 []) [] fin (fun g hg=>grp_ok hr hg) (invSums_each hr h)
 rw [List.nil_append] at r1
 rw [r1];exact r3
theorem idxs_in (l:List Item):∀ (Y X:List Item) (y:Item),idxs (keyI y) (X ++ y :: Y) 0=idxs (keyI y) X 0 ++ ((X.length:Int) :: idxs (keyI y) Y ((X.length:Int)+1)):=by
 have key:∀ (k:Key) (X:List Item) (Y:List Item) (i:Int),idxs k (X ++ Y) i=idxs k X i ++ idxs k Y (i+X.length):=by
  intro k X
  induction X with
  | nil=>intro Y i;simp [idxs]
  | cons x X ih =>
   intro Y i
   have e:i+1+(X.length:Int)=i+((x :: X).length:Int):=by rw [List.length_cons];omega
   show (if keyI x=k then i :: idxs k (X ++ Y) (i+1) else idxs k (X ++ Y) (i+1))=(if keyI x=k then i :: idxs k X (i+1) else idxs k X (i+1)) ++ _
   rw [ih Y (i+1),e]
   split<;>rfl
 intro Y X y
 rw [key,show (0:Int)+X.length=X.length by omega]
 congr 1
 exact if_pos rfl
theorem atOf_has (k:Key):∀ gs:List GV,atOf k gs≠[]→∃ g∈gs,g.1=k∧g.2=atOf k gs
 | [],h=>absurd rfl h
 | g :: gs,h=>by
  by_cases hk:g.1=k
  · have e:atOf k (g :: gs)=g.2:=if_pos hk
    exact ⟨g,by simp,hk,e.symm⟩
  · have e:atOf k (g :: gs)=atOf k gs:=if_neg hk
    rw [e] at h ⊢
    obtain ⟨g',h1,h2⟩:=atOf_has k gs h
    exact ⟨g',by simp [h1],h2⟩
theorem grp_of {l:List Item} {k:Key} (h:idxs k l 0≠[]):∃ g∈grpsV l 0 [],g.1=k∧g.2=idxs k l 0:=by
 have e:atOf k (grpsV l 0 [])=idxs k l 0:=by rw [atOf_grps];rfl
 obtain ⟨g,h1,h2,h3⟩:=atOf_has k (grpsV l 0 []) (by rw [e];exact h)
 exact ⟨g,h1,h2,h3.trans e⟩
theorem zip_mem {α β:Type} : ∀ {a:List α} {b:List β} {x:α},b.length=a.length→x∈a→∃ y,(x,y)∈a.zip b
 | [],_,_,_,h=>by cases h
 | _ :: _,[],_,hl,_=>by simp at hl
 | a :: a1,b :: b1,x,hl,h=>by
  rcases List.mem_cons.1 h with rfl|h
  · exact ⟨b,by simp⟩
  · obtain ⟨y,hy⟩:=zip_mem (by simpa using hl) h
    exact ⟨y,by simp [hy]⟩
end Go.Proofs.Ytlfkfajodnkkhaa.Iv
namespace Go.Proofs.Ytlfkfajodnkkhaa.Iv
open Go Go.RowKit Go.Proofs.YtlfkfajodnkkhaaW.PrintWords Go.Proofs.Ytlfkfajodnkkhaa.Ax Go.Proofs.Ytlfkfajodnkkhaa.Sh
set_option linter.unusedVariables false
set_option linter.unusedSimpArgs false
theorem split_one {t:Int} {ws:List Int} (h:okS t ws=true) (hl:ws.length=1):splitV t ws=[t]:=by
 obtain ⟨p1,p2,_,_⟩:=split_parts h
 match hs:splitV t ws,p1,p2 with
 | [x],_,p2 =>
  have:x=t:=by simpa using p2
  rw [this]
 | [],p1,_=>rw [hl] at p1;simp at p1
 | _ :: _ :: _,p1,_=>rw [hl] at p1;simp at p1
theorem alone_at {l:List Item} {out:List PartT} {g:GV} {s:SumT} {i:Int} (G:GrpOk l g) (S:SumOk l g s) (I:SumIs l g s) (hg:g.2=[i]) (ho:g.2.map (rPt out)=List.zipWith (pv g.1.1 l) g.2 (taxesF g.2 l s)) :
 (Ax.partV (rIt l i).1 (rIt l i).2.2.1 (rIt l i).2.2.2).2.2=0∧rPt out i=((Ax.partV (rIt l i).1 (rIt l i).2.2.1 (rIt l i).2.2.2).1,(Ax.partV (rIt l i).1 (rIt l i).2.2.1 (rIt l i).2.2.2).2.1):=by
 have hk:=G.key i (by rw [hg];simp)
 have k1:(rIt l i).2.2.1=g.1.1:=congrArg Prod.fst hk
 have k2:(rIt l i).2.2.2=g.1.2:=congrArg Prod.snd hk
 have ea:amts l g.2=[(rIt l i).1]:=by rw [hg];rfl
 have es:(amts l g.2).sum=(rIt l i).1:=by rw [ea];simp
 obtain ⟨t1,t2,t3⟩:=taxes_ok G S
 have hw:(wtsG (wgts l g.2)).length=1:=by rw [wtsG_len];unfold wgts;rw [List.length_map,hg];rfl
 have ht:taxesF g.2 l s=[s.2.2.2]:=t2.trans (split_one t1 hw)
 have he:=I.e
 have hv:=I.v
 rw [es] at he hv
 rw [k1,k2]
 refine ⟨he,?_⟩
 rw [ht,hg] at ho
 have ho : [rPt out i]=[pv g.1.1 l i s.2.2.2]:=ho
 have ho:rPt out i=pv g.1.1 l i s.2.2.2:=by simpa using ho
 have h4:s.2.2.2=(Ax.partV (rIt l i).1 g.1.1 g.1.2).2.1:=by rw [hv]
 have h3:s.2.2.1=(Ax.partV (rIt l i).1 g.1.1 g.1.2).1:=by rw [hv]
 have hn:=S.net
 rw [es] at hn
 rw [ho,← h4,← h3,hn]
 have hi:=mayI_d (G.may i (by rw [hg];simp))
 have s0:=S.t0
 have s1:=S.t1
 unfold pv
 cases hgr:g.1.1 with
 | true =>
  rw [cond_true,if_pos rfl]
  have:Sh.IT.wrap ((rIt l i).1 - s.2.2.2)=(rIt l i).1 - s.2.2.2:=by
   show IntKind.i64.wrap ((rIt l i).1 - s.2.2.2)=_
   rw [IntKind.wrap_i64];omega
  rw [this]
 | false=>rw [cond_false,if_neg (by simp)]
theorem A11_run (gO:List Item→OP) (F ko:Nat) (l:List Item) (a:List PartT) (n i:Int) (x:Item) (hl:l.length≤1000):∀ (Y X:List Item) (c:Int) (kk:Nat),l=X ++ Y→0≤c→c≤X.length→Y.length<kk→
 A11 gO F ko kk l a n i x c (l.length:Int) (X.length:Int)=restA a i x (c+(idxs (keyI x) Y (X.length:Int)).length) (A7 gO F ko l a n (Sh.IT.wrap (i+1))):=by
 intro Y
 induction Y with
 | nil =>
  intro X c kk e h0 h1 hk
  obtain ⟨k,rfl⟩:∃ k,kk=k+1:=⟨kk - 1,by simp at hk;omega⟩
  have hln:l.length=X.length:=by rw [e];simp
  rw [A11_eq,decide_eq_false (by omega),sel_false]
  show _=restA a i x (c+0) _
  rw [Int.add_zero]
 | cons y Y ih =>
  intro X c kk e h0 h1 hk
  obtain ⟨k,rfl⟩:∃ k,kk=k+1:=⟨kk - 1,by simp at hk;omega⟩
  rw [List.length_cons] at hk
  have hln:l.length=X.length+(Y.length+1):=by rw [e];simp
  have er:rIt l (X.length:Int)=y:=by rw [e];exact rIt_mid X Y y
  have e1:((X ++ [y]).length:Int)=(X.length:Int)+1:=by rw [List.length_append,List.length_singleton];omega
  have step:∀ c':Int,0≤c'→c'≤X.length+1→A11 gO F ko k l a n i x c' (l.length:Int) (Sh.IT.wrap ((X.length:Int)+1))=restA a i x (c'+(idxs (keyI x) Y ((X.length:Int)+1)).length) (A7 gO F ko l a n (Sh.IT.wrap (i+1))):=by
   intro c' h2 h3
   have:=ih (X ++ [y]) c' k (by rw [e];simp) h2 (by omega) (by omega)
   rw [e1] at this
   rw [wrS (by omega),show ((X.length+1:Nat):Int)=(X.length:Int)+1 by omega];exact this
  rw [A11_eq,decide_eq_true (by omega),sel_true,idxG l _ (by omega) (by omega),er]
  by_cases hk1:keyI y=keyI x
  · have k1:y.2.2.1=x.2.2.1:=congrArg Prod.fst hk1
    have k2:y.2.2.2=x.2.2.2:=congrArg Prod.snd hk1
    have b1:(y.2.2.1 == x.2.2.1)=true:=by rw [k1];simp
    have b2:(y.2.2.2 == x.2.2.2)=true:=by rw [k2];simp
    have ei:idxs (keyI x) (y :: Y) (X.length:Int)=(X.length:Int) :: idxs (keyI x) Y ((X.length:Int)+1):=if_pos hk1
    have ew:Sh.IT.wrap (c+1)=c+1:=by
     show IntKind.i64.wrap (c+1)=_
     rw [IntKind.wrap_i64];omega
    rw [b1,b2,sel_true,sel_true,ew,step (c+1) (by omega) (by omega),ei,List.length_cons]
    congr 1;omega
  · have ei:idxs (keyI x) (y :: Y) (X.length:Int)=idxs (keyI x) Y ((X.length:Int)+1):=if_neg hk1
    rw [ei,step c h0 (by omega)]
    cases b1:(y.2.2.1 == x.2.2.1) with
    | false=>rfl
    | true =>
     rw [sel_true]
     cases b2:(y.2.2.2 == x.2.2.2) with
     | false=>rfl
     | true =>
      have c1:y.2.2.1=x.2.2.1:=by simpa using b1
      have c2:y.2.2.2=x.2.2.2:=by simpa using b2
      exact absurd (show keyI y=keyI x from Prod.ext c1 c2) hk1
theorem A7_run (gO:List Item→OP) (F:Nat) (hF:1100≤F) (l:List Item) (out:List PartT) (hl:l.length≤1000) (ho:out.length=l.length)
 (hone:∀ i:Nat,i<l.length→(idxs (keyI (rIt l (i:Int))) l 0).length=1→(Ax.partV (rIt l i).1 (rIt l i).2.2.1 (rIt l i).2.2.2).2.2=0∧rPt out i=((Ax.partV (rIt l i).1 (rIt l i).2.2.1 (rIt l i).2.2.2).1,(Ax.partV (rIt l i).1 (rIt l i).2.2.1 (rIt l i).2.2.2).2.1)) :
 ∀ (n i kk:Nat),i+n=l.length→n<kk→A7 gO F kk l out (l.length:Int) (i:Int)=oT:=by
 intro n
 induction n with
 | zero =>
  intro i kk hi hk
  obtain ⟨k,rfl⟩:∃ k,kk=k+1:=⟨kk - 1,by omega⟩
  rw [A7_eq,decide_eq_false (by omega),sel_false]
 | succ n ih =>
  intro i kk hi hk
  obtain ⟨k,rfl⟩:∃ k,kk=k+1:=⟨kk - 1,by omega⟩
  have hlt:i<l.length:=by omega
  rw [A7_eq,decide_eq_true (by omega),sel_true,idxG l _ (by omega) (by omega)]
  have h11:=A11_run gO F k l out (l.length:Int) (i:Int) (rIt l (i:Int)) hl l [] 0 F rfl (Int.le_refl _) (by simp) (by omega)
  refine h11.trans ?_
  have nx:A7 gO F k l out (l.length:Int) (Sh.IT.wrap ((i:Int)+1))=oT:=by
   rw [wrS (by omega)]
   exact ih (i+1) k (by omega) (by omega)
  rw [nx]
  unfold restA
  have h00:((([]:List Item).length:Nat):Int)=0:=rfl
  rw [h00]
  cases hb:((0:Int)+((idxs (keyI (rIt l (i:Int))) l 0).length:Int) == 1) with
  | false=>rfl
  | true =>
   have h1:(0:Int)+((idxs (keyI (rIt l (i:Int))) l 0).length:Int)=1:=by simpa using hb
   obtain ⟨p1,p2⟩:=hone i hlt (by omega)
   have hz:((Ax.partV (rIt l (i:Int)).1 (rIt l (i:Int)).2.2.1 (rIt l (i:Int)).2.2.2).2.2 != 0)=false:=by rw [p1];rfl
   rw [sel_true,hz,sel_false,idxG out _ (by omega) (by omega),p2]
   simp [sel]
theorem alone_ev (F:Nat) (hF:1100≤F) (l:List Item):evX Try.prog (CAl invOf) (cnRow 1 TAl) F fAl [qItems] [qBool] (l,())=oT:=by
 rw [alone_tree]
 by_cases h:100<(l.length:Int)
 · rw [decide_eq_true h];rfl
 · rw [decide_eq_false h,sel_false]
   rcases inv_cases l (by omega) with ⟨e,he,h1,h2⟩|⟨hr,fin,out,h1,h2,h3,h4,h5,h6⟩
   · rw [h1,ob_some]
     dsimp only
     have hb:(e != 0)=true:=by simp [he]
     rw [hb,sel_true];rfl
   · rw [h1,ob_some]
     dsimp only
     rw [h5,bne_ii,sel_false,bne_ii,sel_false]
     refine A7_run invOf F hF l out (by omega) h5 (fun i hi h1=>?_) l.length 0 F (by omega) (by omega)
     obtain ⟨X,Y,e,hX⟩:∃ X Y,l=X ++ rIt l (i:Int) :: Y∧X.length=i:=by
      refine ⟨l.take i,l.drop (i+1),?_,by rw [List.length_take];omega⟩
      have:rIt l (i:Int)=l[i]:=by unfold rIt;rw [Int.toNat_natCast,List.getD_eq_getElem?_getD,List.getElem?_eq_getElem hi];rfl
      rw [this,List.getElem_cons_drop,List.take_append_drop]
     have hmem:(i:Int)∈idxs (keyI (rIt l (i:Int))) l 0:=by
      have:=idxs_in l Y X (rIt l (i:Int))
      rw [← e,hX] at this
      rw [this];simp
     obtain ⟨g,g1,g2,g3⟩:=grp_of (l:=l) (k:=keyI (rIt l (i:Int))) (fun hn=>by rw [hn] at hmem;cases hmem)
     obtain ⟨s,hs⟩:=zip_mem h3 g1
     have hone:g.2=[(i:Int)]:=by
      rw [← g3] at hmem h1
      match hg:g.2,h1,hmem with
      | [j], _, hm => have : (i : Int) = j := by simpa using hm
                      rw [this]
      | [],h1,_=>simp at h1
      | _ :: _ :: _,h1,_=>simp at h1
     exact alone_at (h4 _ hs).1 (h4 _ hs).2 (sum_is hr h2 _ hs) hone (h6 _ hs)
end Go.Proofs.Ytlfkfajodnkkhaa.Iv
namespace Go.Proofs.Ytlfkfajodnkkhaa.Print
open Go Go.RowKit Go.Proofs.YtlfkfajodnkkhaaW.PrintWords Go.Proofs.Ytlfkfajodnkkhaa.Ax Go.Proofs.Ytlfkfajodnkkhaa.Iv
set_option linter.unusedVariables false
def trIt (x:S29):Iv.Item:=(x.f0,x.f1,x.f2,x.f3)
theorem it_enc:∀ (w:World) (x:S29) (c:List Value),k29.K w x c→c=enc sIt (trIt x):=by
 intro w x c h
 rw [k29_open h];rfl
end Go.Proofs.Ytlfkfajodnkkhaa.Print
namespace Go.Proofs.Ytlfkfajodnkkhaa.Print
open Go Go.RowKit Go.Proofs.YtlfkfajodnkkhaaW.PrintWords Go.Proofs.Ytlfkfajodnkkhaa.Ax Go.Proofs.Ytlfkfajodnkkhaa.Iv
set_option linter.unusedVariables false
def octroilaw22_InvoiceAlone.f (l0:List S29):Option Bool:=some true
theorem octroilaw22_InvoiceAlone.calls (A0:Option Addr) (c0:Nat) (l0:List S29) (r:Bool) (w:World) (hr0:Kd.C k29 w A0 l0.length l0) (hc0:l0.length≤c0) (h:octroilaw22_InvoiceAlone.f l0=some r) :
 Calls Try.prog 3 #[.slice A0 l0.length c0] w fun e w'=>e = .returned (.bool r)∧Below w.heap.size w w':=by
 obtain rfl:true=r:=Option.some.inj h
 obtain ⟨L,h1,h2⟩:=row_of_C it_enc rfl (by decide) hr0 hc0
 have:=calls_of_X Sh.mixed Try.func3 CAl_ok (fun B' w=>cnRow_ok) (alone_ev 1100 (Nat.le_refl _) (l0.map trIt)) (fun _=>L) w (fun j o hj=>by
  obtain ⟨rfl,rfl⟩:=look_one hj
  exact ⟨Nat.le_refl _,by decide,rfl,rfl,h2 _⟩)
 have hargs:(denL (fun _=>L) (encA [qItems] (l0.map trIt,()) 0)).toArray = #[.slice A0 l0.length c0]:=by
  have h3:=h1 (fun _=>L) 0 rfl
  show (#[den (fun _=>L) (.all 0)]:Array Value)=_
  rw [h3]
 exact cast (congrArg (fun z=>Calls Try.prog 3 z w fun e w'=>e = .returned (.bool true)∧Below w.heap.size w w') hargs) this
end Go.Proofs.Ytlfkfajodnkkhaa.Print
namespace Go.Proofs.Ytlfkfajodnkkhaa.Print
open Go.RowKit Go.Proofs.YtlfkfajodnkkhaaW.PrintWords Go.Proofs.YtlfkfajodnkkhaaW.PrintLast
def octroilaw22_InvoiceAlone.Pure:Prop:=∀ (l0:List (S29)),l0.length≤maxLen→l0.length * 32≤140737488351232→(∀ x∈l0,((Lit.int .i64 x.f0).wf=true∧((Lit.int .i64 x.f1).wf=true∧(True∧(Lit.int .i64 x.f3).wf=true))))→octroilaw22_InvoiceAlone.f l0=some true
end Go.Proofs.Ytlfkfajodnkkhaa.Print
namespace Go.Proofs.Ytlfkfajodnkkhaa.Pure
open Go.RowKit Go.Proofs.Ytlfkfajodnkkhaa.Print
theorem InvoiceAlone:octroilaw22_InvoiceAlone.Pure:=by
 unfold octroilaw22_InvoiceAlone.Pure
 intros;rfl
end Go.Proofs.Ytlfkfajodnkkhaa.Pure
