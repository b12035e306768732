/- Plain laws of the document's numbers of any size (octroiref01),over their printed functions. -/
import Derived.Test.YtlfkfajodnkkhaaX0
import Derived.Test.YtlfkfajodnkkhaaX2
import Derived.Test.YtlfkfajodnkkhaaX3
namespace Go.Proofs.Ytlfkfajodnkkhaa.Print
open Go.RowKit Go.Proofs.YtlfkfajodnkkhaaW.PrintWords Go.Proofs.YtlfkfajodnkkhaaW.PrintLast Go.Proofs.YtlfkfajodnkkhaaW.PrintMore
set_option linter.unusedVariables false
set_option linter.unusedSimpArgs false
theorem w64 {x:Int} (h1 : -9223372036854775808≤x) (h2:x≤9223372036854775807):wrap64 x=x:=by unfold wrap64;omega
theorem evn {α:Type} {g:Nat→Option α} {r:α} (h:∀ k,g k=some r):Ev g r:=⟨0,fun k _=>h k⟩
theorem evb {α β:Type} {g:Nat→Option α} {f:α→Nat→Option β} {a:α} {r:β} (h:Ev g a) (k:Ev (f a) r):Ev (fun n=>(g n).bind (fun x=>f x n)) r:=by
 obtain ⟨K,hK⟩:=h
 obtain ⟨L,hL⟩:=k
 exact ⟨max K L,fun n hn=>by simp only [hK n (by omega),Option.bind_some];exact hL n (by omega)⟩
theorem rd_nat (l:List Int) (n:Nat):rd l (n:Int)=l.getD n 0:=by unfold rd;rw [Int.toNat_natCast]
theorem drop_rd (l:List Int) (n:Nat) (h:n<l.length):l.drop n=rd l (n:Int) :: l.drop (n+1):=by
 rw [List.drop_eq_getElem_cons h,rd_nat,List.getD_eq_getElem?_getD,List.getElem?_eq_getElem h,Option.getD_some]
theorem take_rd (l:List Int) (n:Nat) (h:n<l.length):l.take (n+1)=l.take n ++ [rd l (n:Int)]:=by
 rw [List.take_succ_eq_append_getElem h,rd_nat,List.getD_eq_getElem?_getD,List.getElem?_eq_getElem h,Option.getD_some]
theorem rd_mem (l:List Int) (n:Nat) (h:n<l.length):rd l (n:Int)∈l:=by
 rw [rd_nat,List.getD_eq_getElem?_getD,List.getElem?_eq_getElem h,Option.getD_some]
 exact List.getElem_mem h
def Dig (l:List Int):Prop:=∀ d∈l,0≤d∧d<2147483648
def dval:List Int→Int
 | []=>0
 | d :: l=>d+2147483648 * dval l
def NZ:List Int→Prop
 | []=>True
 | d :: l=>if l=[] then d≠0 else NZ l
theorem NZ.tail {d:Int} {l:List Int} (h:NZ (d :: l)):NZ l:=by
 cases l with
 | nil=>simp [NZ]
 | cons=>simpa [NZ] using h
theorem Dig.nil:Dig []:=by intro d h;cases h
theorem Dig.cons {d:Int} {l:List Int} : Dig (d :: l)↔(0≤d∧d<2147483648)∧Dig l:=by simp [Dig]
theorem Dig.drop {l:List Int} (h:Dig l) (n:Nat):Dig (l.drop n):=fun d hd=>h d (List.mem_of_mem_drop hd)
theorem Dig.take {l:List Int} (h:Dig l) (n:Nat):Dig (l.take n):=fun d hd=>h d (List.mem_of_mem_take hd)
theorem Dig.rd {l:List Int} (h:Dig l) (n:Nat) (hn:n<l.length):0≤rd l (n:Int)∧rd l (n:Int)<2147483648:=h _ (rd_mem l n hn)
theorem dval_0 {l:List Int} (h:Dig l):0≤dval l:=by
 induction l with
 | nil=>simp [dval]
 | cons d l ih =>
  have:=ih (Dig.cons.1 h).2
  have:=(Dig.cons.1 h).1
  simp only [dval];omega
theorem dval_append (l m:List Int):dval (l ++ m)=dval l+2147483648 ^ l.length * dval m:=by
 induction l with
 | nil=>simp [dval]
 | cons d l ih =>
  simp only [List.cons_append,dval,ih,List.length_cons,Int.pow_succ]
  rw [Int.mul_add,← Int.mul_assoc,Int.mul_comm (2147483648 ^ l.length) 2147483648]
  omega
theorem dval_lt {l:List Int} (h:Dig l):dval l<2147483648 ^ l.length:=by
 induction l with
 | nil=>simp [dval]
 | cons d l ih =>
  have:=ih (Dig.cons.1 h).2
  have:=(Dig.cons.1 h).1
  simp only [dval,List.length_cons,Int.pow_succ];omega
theorem dval_ge {l:List Int} (h:Dig l) (hz:NZ l) (hn:l≠[]):2147483648 ^ (l.length - 1)≤dval l:=by
 induction l with
 | nil=>exact absurd rfl hn
 | cons d l ih =>
  have hd:=(Dig.cons.1 h).1
  cases l with
  | nil =>
   simp [NZ] at hz
   simp [dval];omega
  | cons e l =>
   have:=ih (Dig.cons.1 h).2 (by simpa [NZ] using hz) (by simp)
   simp only [List.length_cons,Nat.add_sub_cancel] at this ⊢
   simp only [dval,Int.pow_succ] at this ⊢
   omega
theorem pow_le {m n:Nat} (h:m≤n):(2147483648:Int) ^ m≤2147483648 ^ n:=by
 obtain ⟨k,rfl⟩:=Nat.exists_eq_add_of_le h
 induction k with
 | zero=>simp
 | succ k ih =>
  have:=ih (by omega)
  rw [← Nat.add_assoc,Int.pow_succ]
  have h0:(0:Int)<2147483648 ^ (m+k):=Int.pow_pos (by decide)
  omega
theorem pow_pos' (n:Nat):(0:Int)<2147483648 ^ n:=Int.pow_pos (by decide)
theorem longer {a b:List Int} (ha:Dig a) (hb:Dig b) (hz:NZ b) (h:a.length<b.length):dval a<dval b:=by
 have h1:=dval_lt ha
 have h2:=dval_ge hb hz (by intro e;rw [e] at h;simp at h)
 have h3:=pow_le (m:=a.length) (n:=b.length - 1) (by omega)
 omega
def plusS:List Int→List Int→Int→List Int
 | [],[],c=>if 0<c then [c] else []
 | x :: a,[],c=>(x+c) % 2147483648 :: plusS a [] ((x+c) / 2147483648)
 | [],y :: b,c=>(y+c) % 2147483648 :: plusS [] b ((y+c) / 2147483648)
 | x :: a,y :: b,c=>(x+y+c) % 2147483648 :: plusS a b ((x+y+c) / 2147483648)
theorem plusS_val (a b:List Int) (c:Int) (hc:c=0∨c=1):Dig a→Dig b→dval (plusS a b c)=dval a+dval b+c:=by
 fun_induction plusS a b c with
 | case1 c h=>intro _ _;simp [dval]
 | case2 c h=>intro _ _;simp [dval];omega
 | case3 x a c ih =>
  intro ha hb
  have hx:=(Dig.cons.1 ha).1
  have:=ih (by omega) (Dig.cons.1 ha).2 Dig.nil
  simp only [dval] at this ⊢;omega
 | case4 y b c ih =>
  intro ha hb
  have hy:=(Dig.cons.1 hb).1
  have:=ih (by omega) Dig.nil (Dig.cons.1 hb).2
  simp only [dval] at this ⊢;omega
 | case5 x a y b c ih =>
  intro ha hb
  have hx:=(Dig.cons.1 ha).1
  have hy:=(Dig.cons.1 hb).1
  have:=ih (by omega) (Dig.cons.1 ha).2 (Dig.cons.1 hb).2
  simp only [dval] at this ⊢;omega
theorem plusS_dig (a b:List Int) (c:Int) (hc:c=0∨c=1):Dig a→Dig b→Dig (plusS a b c):=by
 fun_induction plusS a b c with
 | case1 c h=>intro _ _;exact Dig.cons.2 ⟨by omega,Dig.nil⟩
 | case2 c h=>intro _ _;exact Dig.nil
 | case3 x a c ih =>
  intro ha hb
  have hx:=(Dig.cons.1 ha).1
  exact Dig.cons.2 ⟨by omega,ih (by omega) (Dig.cons.1 ha).2 Dig.nil⟩
 | case4 y b c ih =>
  intro ha hb
  have hy:=(Dig.cons.1 hb).1
  exact Dig.cons.2 ⟨by omega,ih (by omega) Dig.nil (Dig.cons.1 hb).2⟩
 | case5 x a y b c ih =>
  intro ha hb
  have hx:=(Dig.cons.1 ha).1
  have hy:=(Dig.cons.1 hb).1
  exact Dig.cons.2 ⟨by omega,ih (by omega) (Dig.cons.1 ha).2 (Dig.cons.1 hb).2⟩
theorem plusS_len (a b:List Int) (c:Int):(plusS a b c).length≤max a.length b.length+1:=by
 fun_induction plusS a b c<;>simp_all<;>omega
theorem plusS_nil (a b:List Int) (c:Int) (hc:c=0∨c=1) (h:plusS a b c=[]):a=[]∧b=[]∧c=0:=by
 cases a with
 | nil =>
  cases b with
  | nil =>
   simp only [plusS] at h
   split at h
   · simp at h
   · exact ⟨rfl,rfl,by omega⟩
  | cons y b=>simp [plusS] at h
 | cons x a=>cases b<;>simp [plusS] at h
theorem plusS_nz (a b:List Int) (c:Int) (hc:c=0∨c=1):Dig a→Dig b→NZ a→NZ b→NZ (plusS a b c):=by
 fun_induction plusS a b c with
 | case1 c h=>intro _ _ _ _;simp [NZ];omega
 | case2 c h=>intro _ _ _ _;simp [NZ]
 | case3 x a c ih =>
  intro ha hb za zb
  have hx:=(Dig.cons.1 ha).1
  have h':=ih (by omega) (Dig.cons.1 ha).2 Dig.nil za.tail (by simp [NZ])
  simp only [NZ]
  split
  · rename_i e
    have:=plusS_nil _ _ _ (by omega) e
    rw [this.1] at za
    simp [NZ] at za
    omega
  · exact h'
 | case4 y b c ih =>
  intro ha hb za zb
  have hy:=(Dig.cons.1 hb).1
  have h':=ih (by omega) Dig.nil (Dig.cons.1 hb).2 (by simp [NZ]) zb.tail
  simp only [NZ]
  split
  · rename_i e
    have:=plusS_nil _ _ _ (by omega) e
    rw [this.2.1] at zb
    simp [NZ] at zb
    omega
  · exact h'
 | case5 x a y b c ih =>
  intro ha hb za zb
  have hx:=(Dig.cons.1 ha).1
  have hy:=(Dig.cons.1 hb).1
  have h':=ih (by omega) (Dig.cons.1 ha).2 (Dig.cons.1 hb).2 za.tail zb.tail
  simp only [NZ]
  split
  · rename_i e
    have:=plusS_nil _ _ _ (by omega) e
    rw [this.1] at za
    simp [NZ] at za
    omega
  · exact h'
theorem tmod_nn {x:Int} (h:0≤x):Int.tmod x 2147483648=x % 2147483648:=Int.tmod_eq_emod_of_nonneg h
theorem tdiv_nn {x:Int} (h:0≤x):Int.tdiv x 2147483648=x / 2147483648:=Int.tdiv_eq_ediv_of_nonneg h
theorem plus_loop (a b:List Int) (ha:Dig a) (hb:Dig b) (la:a.length≤1000000000) (lb:b.length≤1000000000) (m:Nat):∀ (i:Nat) (c:Int) (out:List Int),(c=0∨c=1)→2 * (max a.length b.length - i)+c.toNat≤m→out.length≤i→i+c.toNat≤max a.length b.length+1→
 Ev (fun k=>octroiref01_plus.l0 k a b out c (i:Int)) (out ++ plusS (a.drop i) (b.drop i) c):=by
 induction m with
 | zero =>
  intro i c out hc hm ho hi
  have h1:¬ ((i:Int)<(a.length:Int)):=by omega
  have h2:¬ ((i:Int)<(b.length:Int)):=by omega
  have h3:¬ (c>0):=by omega
  rw [List.drop_eq_nil_of_le (by omega),List.drop_eq_nil_of_le (by omega)]
  simp only [plusS,if_neg h3,List.append_nil]
  refine Ev.step (fun k=>by simp only [octroiref01_plus.l0];rw [if_neg h1,if_neg h2]) ?_
  refine Ev.step (f:=fun _=>some out) (fun k=>by simp only [octroiref01_plus.j1];rw [decide_eq_false h3];simp) (Ev.now _)
 | succ m ih =>
  intro i c out hc hm ho hi
  have hw:wrap64 ((i:Int)+1)=((i+1:Nat):Int):=by rw [w64 (by omega) (by omega)];omega
  have h0:(0:Int)≤(i:Int):=by omega
  by_cases h1:(i:Int)<(a.length:Int)
  · have hra:=ha.rd i (by omega)
    have da:=drop_rd a i (by omega)
    by_cases h2:(i:Int)<(b.length:Int)
    · have hrb:=hb.rd i (by omega)
      have db:=drop_rd b i (by omega)
      have e1:wrap64 (wrap64 (c+rd a i)+rd b i)=rd a i+rd b i+c:=by rw [w64 (x:=c+rd a i) (by omega) (by omega),w64 (by omega) (by omega)];omega
      have:=ih (i+1) ((rd a i+rd b i+c) / 2147483648) (out ++ [(rd a i+rd b i+c) % 2147483648]) (by omega) (by omega) (by simp;omega) (by omega)
      rw [da,db]
      simp only [plusS]
      rw [List.append_assoc] at this
      refine Ev.step (fun k=>by simp only [octroiref01_plus.l0];rw [if_pos h1]) ?_
      refine Ev.step (fun k=>?_) this
      simp only [octroiref01_plus.j1]
      rw [if_pos trivial,if_pos h1,if_pos h0,if_pos h2,if_pos (by omega),e1,tmod_nn (by omega),tdiv_nn (by omega),hw,w64 (x:=(rd a i+rd b i+c) / 2147483648) (by omega) (by omega)]
    · have e1:wrap64 (c+rd a i)=rd a i+c:=by rw [w64 (by omega) (by omega)];omega
      have db:b.drop i=[]:=List.drop_eq_nil_of_le (by omega)
      have db':b.drop (i+1)=[]:=List.drop_eq_nil_of_le (by omega)
      have:=ih (i+1) ((rd a i+c) / 2147483648) (out ++ [(rd a i+c) % 2147483648]) (by omega) (by omega) (by simp;omega) (by omega)
      rw [da,db]
      rw [db'] at this
      simp only [plusS]
      rw [List.append_assoc] at this
      refine Ev.step (fun k=>by simp only [octroiref01_plus.l0];rw [if_pos h1]) ?_
      refine Ev.step (fun k=>?_) this
      simp only [octroiref01_plus.j1]
      rw [if_pos trivial,if_pos h1,if_pos h0,if_neg h2,if_pos (by omega),e1,tmod_nn (by omega),tdiv_nn (by omega),hw,w64 (x:=(rd a i+c) / 2147483648) (by omega) (by omega)]
  · have da:a.drop i=[]:=List.drop_eq_nil_of_le (by omega)
    have da':a.drop (i+1)=[]:=List.drop_eq_nil_of_le (by omega)
    by_cases h2:(i:Int)<(b.length:Int)
    · have hrb:=hb.rd i (by omega)
      have db:=drop_rd b i (by omega)
      have e1:wrap64 (c+rd b i)=rd b i+c:=by rw [w64 (by omega) (by omega)];omega
      have:=ih (i+1) ((rd b i+c) / 2147483648) (out ++ [(rd b i+c) % 2147483648]) (by omega) (by omega) (by simp;omega) (by omega)
      rw [da,db]
      rw [da'] at this
      simp only [plusS]
      rw [List.append_assoc] at this
      refine Ev.step (fun k=>by simp only [octroiref01_plus.l0];rw [if_neg h1,if_pos h2]) ?_
      refine Ev.step (fun k=>?_) this
      simp only [octroiref01_plus.j1]
      rw [if_pos trivial,if_neg h1,if_pos h2,if_pos h0,if_pos (by omega),e1,tmod_nn (by omega),tdiv_nn (by omega),hw,w64 (x:=(rd b i+c) / 2147483648) (by omega) (by omega)]
    · by_cases h3:c>0
      · have db:b.drop i=[]:=List.drop_eq_nil_of_le (by omega)
        have db':b.drop (i+1)=[]:=List.drop_eq_nil_of_le (by omega)
        obtain rfl:c=1:=by omega
        have:=ih (i+1) 0 (out ++ [1]) (by omega) (by omega) (by simp;omega) (by omega)
        rw [da',db'] at this
        rw [da,db]
        simp only [plusS] at this ⊢
        rw [if_neg (by omega),List.append_nil] at this
        rw [if_pos (by omega)]
        refine Ev.step (fun k=>by simp only [octroiref01_plus.l0];rw [if_neg h1,if_neg h2]) ?_
        refine Ev.step (fun k=>?_) this
        simp only [octroiref01_plus.j1]
        rw [if_pos (by decide),if_neg h1,if_neg h2,if_pos (by omega),hw,show wrap64 (Int.tdiv 1 2147483648)=0 by decide +kernel,show Int.tmod 1 2147483648=1 by decide +kernel]
      · rw [List.drop_eq_nil_of_le (by omega),List.drop_eq_nil_of_le (by omega)]
        simp only [plusS,if_neg h3,List.append_nil]
        refine Ev.step (fun k=>by simp only [octroiref01_plus.l0];rw [if_neg h1,if_neg h2]) ?_
        refine Ev.step (f:=fun _=>some out) (fun k=>by simp only [octroiref01_plus.j1];rw [decide_eq_false h3];simp) (Ev.now _)
theorem plus_ev (a b:List Int) (ha:Dig a) (hb:Dig b) (la:a.length≤1000000000) (lb:b.length≤1000000000) :
 Ev (fun k=>octroiref01_plus.f k a b) (plusS a b 0):=by
 have:=plus_loop a b ha hb la lb _ 0 0 [] (.inl rfl) (Nat.le_refl _) (by simp) (by omega)
 simpa [octroiref01_plus.f] using this
theorem clean_loop (l:List Int) (hl:l.length≤1000000010) (h:Dig l):∀ n:Nat,n≤l.length→
 ∃ m,m≤n∧Ev (fun k=>octroiref01_clean.l0 k l (n:Int)) (l.take m)∧dval (l.take m)=dval (l.take n)∧NZ (l.take m):=by
 intro n
 induction n with
 | zero =>
  intro hn
  refine ⟨0,Nat.le_refl _,?_,rfl,by simp [NZ]⟩
  refine Ev.step (f:=fun _=>some (l.take 0)) (fun k=>?_) (Ev.now _)
  simp only [octroiref01_clean.l0]
  rw [if_neg (by omega),if_pos (by omega),if_pos (by omega)]
  rfl
 | succ n ih =>
  intro hn
  have hw:wrap64 (((n+1:Nat):Int) - 1)=(n:Int):=by rw [w64 (by omega) (by omega)];omega
  have ht:=take_rd l n (by omega)
  by_cases hz:rd l (n:Int)=0
  · obtain ⟨m,hm,he,hv,hnz⟩:=ih (by omega)
    refine ⟨m,by omega,?_,?_,hnz⟩
    · refine Ev.step (fun k=>?_) he
      simp only [octroiref01_clean.l0]
      rw [if_pos (by omega),hw,if_pos (by omega),if_pos (by omega),if_pos hz]
    · rw [hv,ht,dval_append,hz];simp [dval]
  · refine ⟨n+1,Nat.le_refl _,?_,rfl,?_⟩
    · refine Ev.step (f:=fun _=>some (l.take (n+1))) (fun k=>?_) (Ev.now _)
      simp only [octroiref01_clean.l0]
      rw [if_pos (by omega),hw,if_pos (by omega),if_pos (by omega),if_neg hz,if_pos (by omega),if_pos (by omega),Int.toNat_natCast]
    · rw [ht]
      generalize l.take n=p
      induction p with
      | nil=>simpa [NZ] using hz
      | cons d p ihp=>simp only [List.cons_append,NZ];rw [if_neg (by simp)];exact ihp
theorem clean_ev (l:List Int) (hl:l.length≤1000000010) (h:Dig l) :
 ∃ r,Ev (fun k=>octroiref01_clean.f k l) r∧Dig r∧NZ r∧dval r=dval l∧r.length≤l.length:=by
 obtain ⟨m,hm,he,hv,hz⟩:=clean_loop l hl h l.length (Nat.le_refl _)
 exact ⟨l.take m,he,h.take m,hz,by rw [hv,List.take_length],by rw [List.length_take];omega⟩
def minusS:List Int→List Int→Int→List Int
 | [],_,_=>[]
 | x :: a,[],c=>(if x - c<0 then x - c+2147483648 else x - c) :: minusS a [] (if x - c<0 then 1 else 0)
 | x :: a,y :: b,c=>(if x - c - y<0 then x - c - y+2147483648 else x - c - y) :: minusS a b (if x - c - y<0 then 1 else 0)
theorem minusS_len (a b:List Int) (c:Int):(minusS a b c).length=a.length:=by
 fun_induction minusS a b c<;>simp_all
theorem minusS_dig (a b:List Int) (c:Int) (hc:c=0∨c=1):Dig a→Dig b→Dig (minusS a b c):=by
 fun_induction minusS a b c with
 | case1=>intro _ _;exact Dig.nil
 | case2 x a c ih =>
  intro ha hb
  have hx:=(Dig.cons.1 ha).1
  exact Dig.cons.2 ⟨by split<;>omega,ih (by split<;>simp) (Dig.cons.1 ha).2 Dig.nil⟩
 | case3 x a y b c ih =>
  intro ha hb
  have hx:=(Dig.cons.1 ha).1
  have hy:=(Dig.cons.1 hb).1
  exact Dig.cons.2 ⟨by split<;>omega,ih (by split<;>simp) (Dig.cons.1 ha).2 (Dig.cons.1 hb).2⟩
theorem minusS_val (a b:List Int) (c:Int) (hc:c=0∨c=1):Dig a→Dig b→b.length≤a.length→∃ q:Int,0≤q∧dval (minusS a b c)=dval a - dval b - c+2147483648 ^ a.length * q:=by
 fun_induction minusS a b c with
 | case1 b c =>
  intro ha hb hl
  have hb':b=[]:=List.length_eq_zero_iff.1 (by simpa using hl)
  subst hb'
  exact ⟨c,by omega,by simp [dval];omega⟩
 | case2 x a c ih =>
  intro ha hb hl
  have hx:=(Dig.cons.1 ha).1
  obtain ⟨q,h0,hq⟩:=ih (by split<;>simp) (Dig.cons.1 ha).2 Dig.nil (by simp)
  refine ⟨q,h0,?_⟩
  simp only [dval,List.length_cons,Int.pow_succ,hq]
  rw [Int.mul_assoc,Int.mul_comm 2147483648 q,← Int.mul_assoc]
  generalize 2147483648 ^ a.length * q=z
  split<;>omega
 | case3 x a y b c ih =>
  intro ha hb hl
  have hx:=(Dig.cons.1 ha).1
  have hy:=(Dig.cons.1 hb).1
  obtain ⟨q,h0,hq⟩:=ih (by split<;>simp) (Dig.cons.1 ha).2 (Dig.cons.1 hb).2 (by simpa using hl)
  refine ⟨q,h0,?_⟩
  simp only [dval,List.length_cons,Int.pow_succ,hq]
  rw [Int.mul_assoc,Int.mul_comm 2147483648 q,← Int.mul_assoc]
  generalize 2147483648 ^ a.length * q=z
  split<;>omega
theorem minusS_sub (a b:List Int) (ha:Dig a) (hb:Dig b) (hl:b.length≤a.length) (h:dval b≤dval a):dval (minusS a b 0)=dval a - dval b:=by
 obtain ⟨q,h0,hq⟩:=minusS_val a b 0 (.inl rfl) ha hb hl
 have h1:=dval_lt (minusS_dig a b 0 (.inl rfl) ha hb)
 have h2:=dval_0 (minusS_dig a b 0 (.inl rfl) ha hb)
 have h3:=dval_lt ha
 have h4:=dval_0 hb
 rw [minusS_len] at h1
 have hq0:q=0:=by
  apply Decidable.byContradiction
  intro hne
  have:2147483648 ^ a.length * 1≤2147483648 ^ a.length * q:=Int.mul_le_mul_of_nonneg_left (by omega) (Int.le_of_lt (pow_pos' _))
  omega
 rw [hq,hq0];omega
theorem minus_loop (a b:List Int) (ha:Dig a) (hb:Dig b) (la:a.length≤1000000010) (lb:b.length≤1000000010) (m:Nat):∀ (i:Nat) (c:Int) (out:List Int) (r:List Int),(c=0∨c=1)→i+m=a.length→out.length=i→
 Ev (fun k=>octroiref01_clean.f k (out ++ minusS (a.drop i) (b.drop i) c)) r→
 Ev (fun k=>octroiref01_minus.l0 k a b out c (i:Int)) r:=by
 induction m with
 | zero =>
  intro i c out r hc hm ho hr
  have da:a.drop i=[]:=List.drop_eq_nil_of_le (by omega)
  rw [da] at hr
  simp only [minusS,List.append_nil] at hr
  refine Ev.step (f:=fun k=>(octroiref01_clean.f k out).bind fun t=>some t) (fun k=>?_) ?_
  · simp only [octroiref01_minus.l0];rw [if_neg (by omega)]
  · exact evb hr (f:=fun t _=>some t) (Ev.now _)
 | succ m ih =>
  intro i c out r hc hm ho hr
  have hw:wrap64 ((i:Int)+1)=((i+1:Nat):Int):=by rw [w64 (by omega) (by omega)];omega
  have da:=drop_rd a i (by omega)
  have hra:=ha.rd i (by omega)
  have e0:wrap64 (rd a i - c)=rd a i - c:=w64 (by omega) (by omega)
  rw [da] at hr
  by_cases h2:(i:Int)<(b.length:Int)
  · have db:=drop_rd b i (by omega)
    have hrb:=hb.rd i (by omega)
    have e1:wrap64 (rd a i - c - rd b i)=rd a i - c - rd b i:=w64 (by omega) (by omega)
    rw [db] at hr
    simp only [minusS] at hr
    by_cases h3:rd a i - c - rd b i<0
    · rw [if_pos h3,if_pos h3] at hr
      have:=ih (i+1) 1 (out ++ [rd a i - c - rd b i+2147483648]) r (.inr rfl) (by omega) (by simp;omega) (by rw [List.append_assoc];exact hr)
      refine Ev.step (fun k=>?_) this
      simp only [octroiref01_minus.l0]
      rw [if_pos (by omega),if_pos (by omega),if_pos h2,e0,e1,if_pos h3,if_pos (by omega),hw,w64 (x:=rd a i - c - rd b i+2147483648) (by omega) (by omega)]
    · rw [if_neg h3,if_neg h3] at hr
      have:=ih (i+1) 0 (out ++ [rd a i - c - rd b i]) r (.inl rfl) (by omega) (by simp;omega) (by rw [List.append_assoc];exact hr)
      refine Ev.step (fun k=>?_) this
      simp only [octroiref01_minus.l0]
      rw [if_pos (by omega),if_pos (by omega),if_pos h2,e0,e1,if_neg h3,if_pos (by omega),hw]
  · have db:b.drop i=[]:=List.drop_eq_nil_of_le (by omega)
    have db':b.drop (i+1)=[]:=List.drop_eq_nil_of_le (by omega)
    rw [db] at hr
    simp only [minusS] at hr
    by_cases h3:rd a i - c<0
    · rw [if_pos h3,if_pos h3] at hr
      have:=ih (i+1) 1 (out ++ [rd a i - c+2147483648]) r (.inr rfl) (by omega) (by simp;omega) (by rw [List.append_assoc,db'];exact hr)
      refine Ev.step (fun k=>?_) this
      simp only [octroiref01_minus.l0]
      rw [if_pos (by omega),if_pos (by omega),if_neg h2,e0,if_pos h3,if_pos (by omega),hw,w64 (x:=rd a i - c+2147483648) (by omega) (by omega)]
    · rw [if_neg h3,if_neg h3] at hr
      have:=ih (i+1) 0 (out ++ [rd a i - c]) r (.inl rfl) (by omega) (by simp;omega) (by rw [List.append_assoc,db'];exact hr)
      refine Ev.step (fun k=>?_) this
      simp only [octroiref01_minus.l0]
      rw [if_pos (by omega),if_pos (by omega),if_neg h2,e0,if_neg h3,if_pos (by omega),hw]
theorem minus_ev (a b:List Int) (ha:Dig a) (hb:Dig b) (la:a.length≤1000000010) (hl:b.length≤a.length) (h:dval b≤dval a) :
 ∃ r,Ev (fun k=>octroiref01_minus.f k a b) r∧Dig r∧NZ r∧dval r=dval a - dval b∧r.length≤a.length:=by
 have hd:=minusS_dig a b 0 (.inl rfl) ha hb
 have hn:=minusS_len a b 0
 obtain ⟨r,hr,h1,h2,h3,h4⟩:=clean_ev (minusS a b 0) (by omega) hd
 refine ⟨r,?_,h1,h2,?_,by omega⟩
 · have:=minus_loop a b ha hb la (by omega) a.length 0 0 [] r (.inl rfl) (by omega) rfl (by simpa using hr)
   simpa [octroiref01_minus.f] using this
 · rw [h3,minusS_sub a b ha hb hl h]
def Tells (r x y:Int):Prop:=(r>0↔x>y)∧(r=0↔x=y)∧-2147483648≤r∧r≤2147483648
theorem cmp_loop (a b:List Int) (ha:Dig a) (hb:Dig b) (hl:a.length=b.length) (la:a.length≤1000000010):∀ n:Nat,n≤a.length→
 ∃ r,Ev (fun k=>octroiref01_cmp.l0 k a b ((n:Int) - 1)) r∧Tells r (dval (a.take n)) (dval (b.take n)):=by
 intro n
 induction n with
 | zero =>
  intro hn
  refine ⟨0,Ev.step (f:=fun _=>some 0) (fun k=>?_) (Ev.now _),by simp [Tells,dval]⟩
  simp only [octroiref01_cmp.l0];rw [if_neg (by omega)]
 | succ n ih =>
  intro hn
  have e:((n+1:Nat):Int) - 1=(n:Int):=by omega
  have hra:=ha.rd n (by omega)
  have hrb:=hb.rd n (by omega)
  have va:=dval_lt (ha.take n)
  have vb:=dval_lt (hb.take n)
  have za:=dval_0 (ha.take n)
  have zb:=dval_0 (hb.take n)
  have na:(a.take n).length=n:=by rw [List.length_take];omega
  have nb:(b.take n).length=n:=by rw [List.length_take];omega
  rw [take_rd a n (by omega),take_rd b n (by omega),dval_append,dval_append,na,nb]
  rw [na] at va
  rw [nb] at vb
  simp only [dval]
  have hw:wrap64 ((n:Int) - 1)=(n:Int) - 1:=w64 (by omega) (by omega)
  by_cases hq:rd a n=rd b n
  · obtain ⟨r,hr,ht⟩:=ih (by omega)
    refine ⟨r,Ev.step (fun k=>?_) hr,?_⟩
    · simp only [octroiref01_cmp.l0];rw [e,if_pos (by omega),if_pos (by omega),if_pos (by omega),if_pos (by omega),if_pos hq,hw]
    · rw [hq]
      generalize 2147483648 ^ n * (rd b n+2147483648 * 0)=z
      unfold Tells at ht ⊢
      omega
  · refine ⟨rd a n - rd b n,Ev.step (f:=fun _=>some (rd a n - rd b n)) (fun k=>?_) (Ev.now _),?_⟩
    · simp only [octroiref01_cmp.l0];rw [e,if_pos (by omega),if_pos (by omega),if_pos (by omega),if_pos (by omega),if_neg hq,w64 (by omega) (by omega)]
    · have hp:=pow_pos' n
      unfold Tells
      rcases Int.lt_or_gt_of_ne hq with hlt|hgt
      · have:2147483648 ^ n * (rd a n+1)≤2147483648 ^ n * rd b n:=Int.mul_le_mul_of_nonneg_left (by omega) (Int.le_of_lt hp)
        rw [Int.mul_add] at this
        simp only [Int.mul_zero,Int.add_zero]
        omega
      · have:2147483648 ^ n * (rd b n+1)≤2147483648 ^ n * rd a n:=Int.mul_le_mul_of_nonneg_left (by omega) (Int.le_of_lt hp)
        rw [Int.mul_add] at this
        simp only [Int.mul_zero,Int.add_zero]
        omega
theorem cmp_ev (a b:List Int) (ha:Dig a) (hb:Dig b) (za:NZ a) (zb:NZ b) (la:a.length≤1000000010) (lb:b.length≤1000000010) :
 ∃ r,Ev (fun k=>octroiref01_cmp.f k a b) r∧Tells r (dval a) (dval b):=by
 by_cases hl:a.length=b.length
 · obtain ⟨r,hr,ht⟩:=cmp_loop a b ha hb hl la a.length (Nat.le_refl _)
   refine ⟨r,Ev.congr (fun k=>?_) hr,?_⟩
   · unfold octroiref01_cmp.f;rw [if_pos (by omega),w64 (by omega) (by omega)]
   · rw [List.take_length,hl,List.take_length] at ht;exact ht
 · refine ⟨(a.length:Int) - b.length,evn (fun k=>?_),?_⟩
   · unfold octroiref01_cmp.f;rw [if_neg (by omega),w64 (by omega) (by omega)]
   · unfold Tells
     rcases Nat.lt_or_gt_of_ne hl with h|h
     · have:=longer ha hb zb h;omega
     · have:=longer hb ha za h;omega
structure IsNum (n:Bool) (l:List Int) (v:Int):Prop where
 dig:Dig l
 nz:NZ l
 pos:n=true→0<dval l
 val:v=if n=true then -dval l else dval l
theorem IsNum.neg {n:Bool} {l:List Int} {v:Int} (h:IsNum n l v):n=decide (v<0):=by
 have h0:=dval_0 h.dig
 have hv:=h.val
 cases n with
 | true=>have:=h.pos rfl;simp at hv;simp;omega
 | false=>simp at hv;simp;omega
theorem IsNum.abs {n:Bool} {l:List Int} {v:Int} (h:IsNum n l v):dval l=if v<0 then -v else v:=by
 have h0:=dval_0 h.dig
 have hv:=h.val
 cases n with
 | true=>have:=h.pos rfl;simp at hv;split<;>omega
 | false=>simp at hv;split<;>omega
theorem IsNum.zero:IsNum false [] 0:=⟨Dig.nil,by simp [NZ],by simp,by simp [dval]⟩
theorem add_ev (n1 n2:Bool) (l1 l2:List Int) (v1 v2:Int) (h1:IsNum n1 l1 v1) (h2:IsNum n2 l2 v2) (b1:l1.length≤1000000000) (b2:l2.length≤1000000000) :
 ∃ n l,Ev (fun k=>octroiref01_Add.f k n1 l1 n2 l2) (n,l)∧IsNum n l (v1+v2)∧l.length≤max l1.length l2.length+1:=by
 have g1:=dval_0 h1.dig
 have g2:=dval_0 h2.dig
 by_cases hn:n1=n2
 · subst hn
   have hp:=plus_ev l1 l2 h1.dig h2.dig b1 b2
   refine ⟨n1,plusS l1 l2 0,?_,⟨plusS_dig _ _ _ (.inl rfl) h1.dig h2.dig,plusS_nz _ _ _ (.inl rfl) h1.dig h2.dig h1.nz h2.nz,?_,?_⟩,plusS_len _ _ _⟩
   · have:=evb hp (f:=fun t _=>some (n1,t)) (Ev.now _)
     refine Ev.congr (fun k=>?_) this
     unfold octroiref01_Add.f;rw [if_pos (by simp)]
   · intro e
     rw [plusS_val _ _ _ (.inl rfl) h1.dig h2.dig]
     have:=h1.pos e;omega
   · rw [plusS_val _ _ _ (.inl rfl) h1.dig h2.dig,h1.val,h2.val]
     split<;>omega
 · have hne:¬ ((n1 == n2)=true):=by simpa using hn
   obtain ⟨r,hr,ht⟩:=cmp_ev l1 l2 h1.dig h2.dig h1.nz h2.nz (by omega) (by omega)
   unfold Tells at ht
   have hv1:=h1.val
   have hv2:=h2.val
   by_cases r0:r=0
   · refine ⟨false,[],?_,?_,by simp⟩
     · have:=evb hr (f:=fun t k=>if t=0 then (some (false,([]:List Int))) else (if t>0 then ((octroiref01_minus.f k l1 l2).bind fun t=>(some (n1,t))) else ((octroiref01_minus.f k l2 l1).bind fun t=>(some (n2,t))))) (evn (r:=(false,[])) (fun k=>by rw [if_pos r0]))
       refine Ev.congr (fun k=>?_) this
       unfold octroiref01_Add.f;rw [if_neg hne]
     · have:v1+v2=0:=by
        have:=ht.2.1.1 r0
        cases n1<;>cases n2<;>simp at hn hv1 hv2<;>omega
       rw [this];exact IsNum.zero
   · by_cases rp:r>0
     · have hgt:=ht.1.1 rp
       have hle:l2.length≤l1.length:=by
        apply Decidable.byContradiction
        intro hc
        have:=longer h1.dig h2.dig h2.nz (by omega)
        omega
       obtain ⟨m,hm,m1,m2,m3,m4⟩:=minus_ev l1 l2 h1.dig h2.dig (by omega) hle (by omega)
       refine ⟨n1,m,?_,⟨m1,m2,fun _=>by omega,?_⟩,by omega⟩
       · have:=evb hr (f:=fun t k=>if t=0 then (some (false,([]:List Int))) else (if t>0 then ((octroiref01_minus.f k l1 l2).bind fun t=>(some (n1,t))) else ((octroiref01_minus.f k l2 l1).bind fun t=>(some (n2,t)))))
          (Ev.congr (fun k=>by rw [if_neg r0,if_pos rp]) (evb hm (f:=fun t _=>some (n1,t)) (Ev.now _)))
         refine Ev.congr (fun k=>?_) this
         unfold octroiref01_Add.f;rw [if_neg hne]
       · cases n1<;>cases n2<;>simp at hn hv1 hv2 ⊢<;>omega
     · have hlt:dval l1<dval l2:=by
        have:=ht.1;have:=ht.2.1;omega
       have hle:l1.length≤l2.length:=by
        apply Decidable.byContradiction
        intro hc
        have:=longer h2.dig h1.dig h1.nz (by omega)
        omega
       obtain ⟨m,hm,m1,m2,m3,m4⟩:=minus_ev l2 l1 h2.dig h1.dig (by omega) hle (by omega)
       refine ⟨n2,m,?_,⟨m1,m2,fun _=>by omega,?_⟩,by omega⟩
       · have:=evb hr (f:=fun t k=>if t=0 then (some (false,([]:List Int))) else (if t>0 then ((octroiref01_minus.f k l1 l2).bind fun t=>(some (n1,t))) else ((octroiref01_minus.f k l2 l1).bind fun t=>(some (n2,t)))))
          (Ev.congr (fun k=>by rw [if_neg r0,if_neg rp]) (evb hm (f:=fun t _=>some (n2,t)) (Ev.now _)))
         refine Ev.congr (fun k=>?_) this
         unfold octroiref01_Add.f;rw [if_neg hne]
       · cases n1<;>cases n2<;>simp at hn hv1 hv2 ⊢<;>omega
theorem of_loop (neg:Bool) (m:Nat):∀ (a:Int) (out:List Int),-9223372036854775808≤a→a≤9223372036854775807→(a.natAbs:Int)<2147483648 ^ m→out.length+m≤100→
 ∃ r,Ev (fun k=>octroiref01_Of.l0 k a out neg) (neg,out ++ r)∧Dig r∧NZ r∧dval r=a.natAbs∧r.length≤m:=by
 induction m with
 | zero =>
  intro a out h1 h2 h3 ho
  have:a=0:=by simp at h3;omega
  subst this
  refine ⟨[],Ev.step (f:=fun _=>some (neg,out ++ [])) (fun k=>?_) (Ev.now _),Dig.nil,by simp [NZ],by simp [dval],by simp⟩
  simp only [octroiref01_Of.l0];rw [if_pos trivial,List.append_nil]
 | succ m ih =>
  intro a out h1 h2 h3 ho
  by_cases h0:a=0
  · subst h0
    refine ⟨[],Ev.step (f:=fun _=>some (neg,out ++ [])) (fun k=>?_) (Ev.now _),Dig.nil,by simp [NZ],by simp [dval],by simp⟩
    simp only [octroiref01_Of.l0];rw [if_pos trivial,List.append_nil]
  · have ht:Int.tmod a 2147483648=if a<0 then -(-a % 2147483648) else a % 2147483648:=by
     split
     · rename_i h;rw [show a = -(-a) by omega,Int.neg_tmod,tmod_nn (by omega)];omega
     · exact tmod_nn (by omega)
    have hq:Int.tdiv a 2147483648=if a<0 then -(-a / 2147483648) else a / 2147483648:=by
     split
     · rename_i h;rw [show a = -(-a) by omega,Int.neg_tdiv,tdiv_nn (by omega)];omega
     · exact tdiv_nn (by omega)
    have hw:wrap64 (Int.tdiv a 2147483648)=Int.tdiv a 2147483648:=by rw [hq];exact w64 (by split<;>omega) (by split<;>omega)
    have hd:∃ d:Int,0≤d∧d<2147483648∧(a.natAbs:Int)=d+2147483648 * ((Int.tdiv a 2147483648).natAbs:Int)∧((Int.tmod a 2147483648<0∧wrap64 (-(Int.tmod a 2147483648))=d)∨(¬ (Int.tmod a 2147483648<0)∧Int.tmod a 2147483648=d)):=by
     refine ⟨(Int.tmod a 2147483648).natAbs,by omega,?_,?_,?_⟩
     · rw [ht];split<;>omega
     · rw [ht,hq];split<;>omega
     · by_cases hs:Int.tmod a 2147483648<0
       · left;refine ⟨hs,?_⟩
         rw [w64 (by rw [ht];split<;>omega) (by rw [ht];split<;>omega)];omega
       · right;exact ⟨hs,by omega⟩
    obtain ⟨d,d0,d1,dv,hs⟩:=hd
    have h3':((Int.tdiv a 2147483648).natAbs:Int)<2147483648 ^ m:=by
     rw [Int.pow_succ] at h3
     generalize (2147483648:Int) ^ m=p at h3 ⊢
     omega
    have hb : -9223372036854775808≤Int.tdiv a 2147483648∧Int.tdiv a 2147483648≤9223372036854775807:=by rw [hq];split<;>omega
    obtain ⟨r,hr,r1,r2,r3,r4⟩:=ih (Int.tdiv a 2147483648) (out ++ [d]) hb.1 hb.2 h3' (by simp;omega)
    refine ⟨d :: r,?_,Dig.cons.2 ⟨⟨d0,d1⟩,r1⟩,?_,?_,by simp;omega⟩
    · rw [List.append_assoc] at hr
      refine Ev.step (fun k=>?_) hr
      simp only [octroiref01_Of.l0]
      rw [if_neg h0]
      rcases hs with ⟨s1,s2⟩|⟨s1,s2⟩
      · rw [if_pos s1,if_pos (by omega),hw,s2]
      · rw [if_neg s1,if_pos (by omega),hw,s2]
    · simp only [NZ]
      split
      · rename_i e
        rw [e] at r3
        simp only [dval] at r3
        omega
      · exact r2
    · simp only [dval,r3];omega
theorem of_ev (a:Int) (h1 : -9223372036854775808≤a) (h2:a≤9223372036854775807) :
 ∃ n l,Ev (fun k=>octroiref01_Of.f k a) (n,l)∧IsNum n l a∧l.length≤3:=by
 obtain ⟨r,hr,r1,r2,r3,r4⟩:=of_loop (decide (a<0)) 3 a [] h1 h2 (by simp only [Int.reducePow];omega) (by simp)
 refine ⟨decide (a<0),r,Ev.congr (fun k=>?_) hr,⟨r1,r2,?_,?_⟩,r4⟩
 · rfl
 · intro h;simp at h;omega
 · rw [r3];by_cases h:a<0
   · rw [if_pos (by simpa using h)];omega
   · rw [if_neg (by simpa using h)];omega
end Go.Proofs.Ytlfkfajodnkkhaa.Print
