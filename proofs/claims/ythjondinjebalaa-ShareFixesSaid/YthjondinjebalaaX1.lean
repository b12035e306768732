/- A text of this seat. -/
import Derived.Test.YthjondinjebalaaX0
import Derived.Test.YthjondinjebalaaAx4
import Derived.Test.YthjondinjebalaaAx8
import Derived.Test.YthjondinjebalaaX8
import Derived.Test.YthjondinjebalaaX9
import Derived.Test.YthjondinjebalaaRef01A
namespace Go.Proofs.Ythjondinjebalaa.Print
open Go.RowKit Go.Proofs.YthjondinjebalaaW.PrintWords Go.Proofs.YthjondinjebalaaW.PrintLast Go.Proofs.YthjondinjebalaaW.PrintMore
set_option linter.unusedVariables false
set_option linter.unusedSimpArgs false
theorem dval_set:∀ (l:List Int) (j:Nat) (v:Int),j<l.length→dval (l.set j v)=dval l+2147483648 ^ j * (v - rd l (j:Int))
 | [],j,v,h=>by simp at h
 | d :: l,0,v,h=>by
  rw [rd_nat];simp only [List.set_cons_zero,dval,List.getD_cons_zero,Int.pow_zero];omega
 | d :: l,j+1,v,h=>by
  have ih:=dval_set l j v (by simpa using h)
  rw [rd_nat] at ih ⊢
  simp only [List.set_cons_succ,dval,List.getD_cons_succ,ih,Int.pow_succ]
  rw [Int.mul_add,← Int.mul_assoc,Int.mul_comm 2147483648 (2147483648 ^ j)]
  omega
theorem rd_set (l:List Int) (j j':Nat) (v:Int) (h:j<l.length):rd (l.set j v) (j':Int)=if j=j' then v else rd l (j':Int):=by
 rw [rd_nat,rd_nat,List.getD_eq_getElem?_getD,List.getD_eq_getElem?_getD,List.getElem?_set]
 split
 · rename_i e;subst e;simp [h]
 · rfl
theorem Dig.set {l:List Int} (h:Dig l) (j:Nat) (v:Int) (hv:0≤v∧v<2147483648):Dig (l.set j v):=by
 intro d hd
 rcases List.mem_or_eq_of_mem_set hd with hd|hd
 · exact h d hd
 · subst hd;exact hv
theorem dig_mul {x y:Int} (hx:0≤x∧x<2147483648) (hy:0≤y∧y<2147483648):0≤x * y∧x * y≤4611686014132420609 :=
 ⟨Int.mul_nonneg hx.1 hy.1,by
  have:=Int.mul_le_mul (show x≤2147483647 by omega) (show y≤2147483647 by omega) hy.1 (by omega)
  omega⟩
theorem step_nums {c r x s:Int} (hc:0≤c∧c<2147483648) (hr:0≤r∧r<2147483648) (hx:0≤x∧x≤4611686014132420609) (hs:s=c+r+x) :
 wrap64 (c+r)=c+r∧wrap64 x=x∧wrap64 (c+r+x)=s∧Int.tmod s 2147483648=s % 2147483648∧wrap64 (Int.tdiv s 2147483648)=s / 2147483648:=by
 have sb:0≤s∧s≤4611686018427387903:=by omega
 refine ⟨w64 (by omega) (by omega),w64 (by omega) (by omega),by rw [← hs];exact w64 (by omega) (by omega),tmod_nn sb.1,?_⟩
 rw [tdiv_nn sb.1];exact w64 (by omega) (by omega)
theorem step_at {i k m:Nat} (h:i+k≤m) (hm:m≤2000000000):wrap64 ((i:Int)+(k:Int))=((i+k:Nat):Int):=by rw [w64 (by omega) (by omega)];omega
theorem step_one {k:Nat} (h:k≤2000000000):wrap64 ((k:Int)+1)=((k+1:Nat):Int):=by rw [w64 (by omega) (by omega)];omega
theorem mul_step (n1 n2:Bool) (a b:List Int) {d:List Int} {q i k:Nat} {c r x s:Int} (hi:i<a.length) (hk:k<b.length) (hd:i+k<d.length) (la:a.length≤1000000) (lb:b.length≤1000000)
 (hc:0≤c∧c<2147483648) (hr:0≤r∧r<2147483648) (hx:0≤x∧x≤4611686014132420609) (hre:rd d ((i+k:Nat):Int)=r) (hxe:rd a (i:Int) * rd b (k:Int)=x) (hs:s=c+r+x) :
 octroiref01_Mul.l1 (q+1) d (i:Int) c (k:Int) n1 a n2 b=octroiref01_Mul.l1 q (d.set (i+k) (s % 2147483648)) (i:Int) (s / 2147483648) ((k+1:Nat):Int) n1 a n2 b:=by
 have w1:=step_at (i:=i) (k:=k) (m:=i+k) (Nat.le_refl _) (Nat.le_trans (Nat.add_le_add (Nat.le_trans (Nat.le_of_lt hi) la) (Nat.le_trans (Nat.le_of_lt hk) lb)) (by decide))
 have w2:=step_one (k:=k) (Nat.le_trans (Nat.le_trans (Nat.le_of_lt hk) lb) (by decide))
 obtain ⟨q7,q8,q9,q10,q11⟩:=step_nums hc hr hx hs
 clear hs hc hr hx la lb
 have q1:(k:Int)<(b.length:Int):=Int.ofNat_lt.2 hk
 have q2:(0:Int)≤((i+k:Nat):Int):=Int.natCast_nonneg _
 have q3:((i+k:Nat):Int)<(d.length:Int):=Int.ofNat_lt.2 hd
 have q4:(0:Int)≤(i:Int):=Int.natCast_nonneg _
 have q5:(i:Int)<(a.length:Int):=Int.ofNat_lt.2 hi
 have q6:(0:Int)≤(k:Int):=Int.natCast_nonneg _
 clear hk hd hi
 conv=>lhs;unfold octroiref01_Mul.l1
 rw [if_pos q1,w1,w2,if_pos q2,if_pos q3,if_pos q4,if_pos q5,if_pos q6,Int.toNat_natCast,hre,hxe,q7,q8,q9,q10,q11]
section
variable (n1 n2:Bool) (a b:List Int) (ha:Dig a) (hb:Dig b) (la:a.length≤1000000) (lb:b.length≤1000000)
include ha hb la lb
theorem mul_inner (i:Nat) (hi:i<a.length) (m:Nat):∀ (k:Nat) (c:Int) (d:List Int),k+m=b.length→Dig d→d.length=a.length+b.length+1→0≤c→c<2147483648→
 (∀ j:Nat,i+b.length≤j→rd d (j:Int)=0)→
 ∃ d',Dig d'∧d'.length=a.length+b.length+1∧(∀ j:Nat,i+1+b.length≤j→rd d' (j:Int)=0)∧dval d'=dval d+2147483648 ^ (i+k) * (c+rd a (i:Int) * dval (b.drop k))∧
  ∀ R,Ev (fun q=>octroiref01_Mul.l0 q d' ((i+1:Nat):Int) n1 a n2 b) R→Ev (fun q=>octroiref01_Mul.l1 q d (i:Int) c (k:Int) n1 a n2 b) R:=by
 induction m with
 | zero =>
  intro k c d hk hd hl c0 c1 hz
  have hzz:=hz (i+b.length) (Nat.le_refl _)
  refine ⟨d.set (i+b.length) c,hd.set _ _ ⟨c0,c1⟩,by rw [List.length_set];exact hl,fun j hj=>?_,?_,fun R hR=>?_⟩
  · rw [rd_set d _ _ _ (by omega),if_neg (by omega)];exact hz j (by omega)
  · rw [dval_set d _ _ (by omega),hzz,List.drop_eq_nil_of_le (by omega),show k=b.length by omega];simp [dval]
  · refine Ev.step (fun q=>?_) hR
    clear hz hd
    have w1:wrap64 ((i:Int)+(b.length:Int))=((i+b.length:Nat):Int):=by rw [w64 (by omega) (by omega)];omega
    have w2:wrap64 ((i:Int)+1)=((i+1:Nat):Int):=by rw [w64 (by omega) (by omega)];omega
    simp only [octroiref01_Mul.l1]
    rw [if_neg (by omega),w1,w2,if_pos (by omega),if_pos (by omega),Int.toNat_natCast,hzz,Int.zero_add,w64 (by omega) (by omega)]
 | succ m ih =>
  intro k c d hk hd hl c0 c1 hz
  have ra:=ha.rd i hi
  have rb:=hb.rd k (by omega)
  have rdd:=hd.rd (i+k) (by omega)
  have hx:=dig_mul ra rb
  obtain ⟨x,hxe⟩:∃ x,x=rd a (i:Int) * rd b (k:Int):=⟨_,rfl⟩
  obtain ⟨r,hre⟩:∃ r,r=rd d ((i+k:Nat):Int):=⟨_,rfl⟩
  rw [← hxe] at hx
  rw [← hre] at rdd
  obtain ⟨s,hs⟩:∃ s,s=c+r+x:=⟨_,rfl⟩
  obtain ⟨d',g1,g2,g3,g4,g5⟩:=ih (k+1) (s / 2147483648) (d.set (i+k) (s % 2147483648)) (by omega) (hd.set _ _ (by omega)) (by rw [List.length_set];exact hl) (by omega) (by omega)
   (fun j hj=>by rw [rd_set d _ _ _ (by omega),if_neg (by omega)];exact hz j hj)
  refine ⟨d',g1,g2,g3,?_,fun R hR=>Ev.step (fun q=>?_) (g5 R hR)⟩
  · rw [g4,dval_set d _ _ (by omega),← hre]
    have db:=drop_rd b k (by omega)
    rw [db]
    simp only [dval]
    have e1:rd a (i:Int) * (rd b (k:Int)+2147483648 * dval (b.drop (k+1)))=x+2147483648 * (rd a (i:Int) * dval (b.drop (k+1))):=by
     rw [Int.mul_add,← hxe,← Int.mul_assoc,Int.mul_comm (rd a (i:Int)) 2147483648,Int.mul_assoc]
    rw [e1]
    generalize rd a (i:Int) * dval (b.drop (k+1))=y
    rw [show i+(k+1)=i+k+1 by omega,Int.pow_succ]
    generalize (2147483648:Int) ^ (i+k)=q
    have e2:q * 2147483648 * (s / 2147483648+y)=q * (2147483648 * (s / 2147483648+y)):=Int.mul_assoc _ _ _
    rw [e2,Int.add_assoc,← Int.mul_add]
    congr 2
    omega
  · rw [mul_step n1 n2 a b (q:=q) hi (show k<b.length by omega) (show i+k<d.length by omega) la lb ⟨c0,c1⟩ rdd ⟨hx.1,hx.2⟩ hre.symm hxe.symm hs]
theorem mul_outer (m:Nat):∀ (i:Nat) (d:List Int),i+m=a.length→Dig d→d.length=a.length+b.length+1→(∀ j:Nat,i+b.length≤j→rd d (j:Int)=0)→
 ∃ r,Ev (fun q=>octroiref01_Mul.l0 q d (i:Int) n1 a n2 b) (if r=[] then false else n1 != n2,r)∧Dig r∧NZ r∧dval r=dval d+2147483648 ^ i * (dval (a.drop i) * dval b)∧r.length≤a.length+b.length+1:=by
 induction m with
 | zero =>
  intro i d hi hd hl hz
  obtain ⟨r,he,h1,h2,h3,h4⟩:=clean_ev d (by omega) hd
  refine ⟨r,?_,h1,h2,?_,by omega⟩
  · refine Ev.step (fun q=>by simp only [octroiref01_Mul.l0];rw [if_neg (by omega)]) (Ev.bind (f:=fun _ t=>if (t.length:Int)>0 then some ((n1 != n2),t) else some (false,t)) he (evn fun k=>?_))
    cases r with
    | nil=>rfl
    | cons x r=>rw [if_pos (show ((x :: r).length:Int)>0 by simp only [List.length_cons];omega),if_neg (List.cons_ne_nil _ _)]
  · rw [h3,List.drop_eq_nil_of_le (by omega)];simp [dval]
 | succ m ih =>
  intro i d hi hd hl hz
  obtain ⟨d',g1,g2,g3,g4,g5⟩:=mul_inner n1 n2 a b ha hb la lb i (by omega) b.length 0 0 d (by omega) hd hl (by omega) (by omega) hz
  obtain ⟨r,he,h1,h2,h3,h4⟩:=ih (i+1) d' (by omega) g1 g2 g3
  refine ⟨r,?_,h1,h2,?_,h4⟩
  · refine Ev.step (fun q=>by simp only [octroiref01_Mul.l0];rw [if_pos (by omega)]) ?_
    exact g5 _ he
  · rw [h3,g4,drop_rd a i (by omega)]
    simp only [dval,List.drop_zero,Nat.add_zero,Int.zero_add,Int.pow_succ]
    rw [Int.add_mul,Int.mul_add,Int.mul_assoc (2147483648 ^ i) 2147483648,Int.mul_assoc 2147483648]
    omega
theorem mulD_ev:∃ r,Ev (fun k=>octroiref01_Mul.f k n1 a n2 b) (if r=[] then false else n1 != n2,r)∧Dig r∧NZ r∧dval r=dval a * dval b∧r.length≤a.length+b.length+1:=by
 obtain ⟨r,he,h1,h2,h3,h4⟩:=mul_outer n1 n2 a b ha hb la lb a.length 0 (List.replicate (a.length+b.length+1) 0) (by omega) (by intro d hd;rw [List.eq_of_mem_replicate hd];omega) (by simp) (by
  intro j hj
  rw [rd_nat,List.getD_eq_getElem?_getD,List.getElem?_replicate];split<;>rfl)
 refine ⟨r,Ev.congr (fun k=>?_) he,h1,h2,?_,h4⟩
 · have w1:wrap64 (wrap64 ((a.length:Int)+(b.length:Int))+1)=((a.length+b.length+1:Nat):Int):=by rw [w64 (x:=(a.length:Int)+b.length) (by omega) (by omega),w64 (by omega) (by omega)];omega
   unfold octroiref01_Mul.f
   rw [w1,if_pos (by omega),Int.toNat_natCast,if_pos (by omega)]
   rfl
 · rw [h3]
   have:dval (List.replicate (a.length+b.length+1) 0)=0:=by
    generalize a.length+b.length+1=n
    induction n with
    | zero=>rfl
    | succ n ih=>simp only [List.replicate_succ,dval,ih];rfl
   rw [this];simp
end
theorem dval_nil_iff {l:List Int} (h:Dig l) (hz:NZ l):l=[]↔dval l=0:=by
 constructor
 · intro e;rw [e];rfl
 · intro e
   apply Decidable.byContradiction
   intro hn
   have:=dval_ge h hz hn
   have:=pow_pos' (l.length - 1)
   omega
theorem mulN_ev (n1 n2:Bool) (l1 l2:List Int) (v1 v2:Int) (h1:IsNum n1 l1 v1) (h2:IsNum n2 l2 v2) (b1:l1.length≤1000000) (b2:l2.length≤1000000) :
 ∃ n l,Ev (fun k=>octroiref01_Mul.f k n1 l1 n2 l2) (n,l)∧IsNum n l (v1 * v2)∧l.length≤l1.length+l2.length+1:=by
 obtain ⟨r,he,r1,r2,r3,r4⟩:=mulD_ev n1 n2 l1 l2 h1.dig h2.dig b1 b2
 refine ⟨_,r,he,⟨r1,r2,?_,?_⟩,r4⟩
 · intro hn
   have hne:¬ r=[]:=by intro e;rw [if_pos e] at hn;cases hn
   have h0:=dval_0 r1
   have:¬ dval r=0:=fun e=>hne ((dval_nil_iff r1 r2).2 e)
   omega
 · have e1:=h1.val
   have e2:=h2.val
   by_cases hr:r=[]
   · rw [if_pos hr]
     have h0:=(dval_nil_iff r1 r2).1 hr
     rw [r3] at h0
     have hv:v1 * v2=0:=by
      rw [e1,e2]
      cases n1<;>cases n2<;>simp only [Int.neg_mul,Int.mul_neg,Int.neg_neg,h0,Bool.false_eq_true,if_true,if_false,Int.neg_zero]
     rw [hv,r3,h0];rfl
   · rw [if_neg hr,e1,e2,r3]
     cases n1<;>cases n2<;>simp [Int.neg_mul,Int.mul_neg]
theorem cmpN_ev (n1 n2:Bool) (l1 l2:List Int) (v1 v2:Int) (h1:IsNum n1 l1 v1) (h2:IsNum n2 l2 v2) (b1:l1.length≤1000000010) (b2:l2.length≤1000000010) :
 ∃ r,Ev (fun k=>octroiref01_Cmp.f k n1 l1 n2 l2) r∧(r<0↔v1<v2)∧(r≤0↔v1≤v2):=by
 obtain ⟨t,he,ht⟩:=cmp_ev l1 l2 h1.dig h2.dig h1.nz h2.nz b1 b2
 have d1:=dval_0 h1.dig
 have d2:=dval_0 h2.dig
 have e1:=h1.val
 have e2:=h2.val
 have p1:=h1.pos
 have p2:=h2.pos
 obtain ⟨t1,t2,t3,t4⟩:=ht
 have wt:wrap64 (-t) = -t:=w64 (by omega) (by omega)
 cases n1<;>cases n2
 · refine ⟨t,Ev.congr (fun k=>by unfold octroiref01_Cmp.f;rw [if_neg (by decide)]) (Ev.bind (f:=fun _ t=>if false=true then some (wrap64 (-t)) else some t) he (evn fun k=>by rw [if_neg (by decide)])),?_⟩
   simp at e1 e2;omega
 · refine ⟨1,evn fun k=>by unfold octroiref01_Cmp.f;rw [if_pos (by decide),if_neg (by decide)],?_⟩
   have:=p2 rfl
   simp at e1 e2;omega
 · refine ⟨-1,evn fun k=>by unfold octroiref01_Cmp.f;rw [if_pos (by decide),if_pos (by decide)],?_⟩
   have:=p1 rfl
   simp at e1 e2;omega
 · refine ⟨-t,Ev.congr (fun k=>by unfold octroiref01_Cmp.f;rw [if_neg (by decide)]) (Ev.bind (f:=fun _ t=>if true=true then some (wrap64 (-t)) else some t) he (evn fun k=>by rw [if_pos rfl,wt])),?_⟩
   have:=p1 rfl
   have:=p2 rfl
   simp at e1 e2;omega
end Go.Proofs.Ythjondinjebalaa.Print
namespace Go.Proofs.Ythjondinjebalaa.Print
open Go.RowKit Go.Proofs.YthjondinjebalaaW.PrintWords Go.Proofs.YthjondinjebalaaW.PrintLast Go.Proofs.YthjondinjebalaaW.PrintMore
attribute [local go_sem] max2_int min2_int max_two min_two max_three min_three max_four min_four   -- for this text's walks alone
set_option linter.unusedVariables false
set_option linter.unusedSimpArgs false
end Go.Proofs.Ythjondinjebalaa.Print
