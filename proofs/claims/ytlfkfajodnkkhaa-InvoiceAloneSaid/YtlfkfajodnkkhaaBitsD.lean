/- Merged texts: BitsA,BitsB,BitsC,BitsD. -/
import Derived.Test.YtlfkfajodnkkhaaWideA
import Derived.Lib.Mul64
import Derived.Laws.BitsLemmas
import Derived.IntWalk
namespace Go.Proofs.Ytlfkfajodnkkhaa.Ax
open Go Go.RowKit
set_option linter.unusedVariables false
set_option linter.unusedSimpArgs false
theorem wrapU64 (n:Int):IntKind.u64.wrap n=n % 18446744073709551616:=by simp [IntKind.wrap,IntKind.bits,IntKind.signed]
theorem wraps_u64 (n:Int) (h₀:0≤n) (h₁:n<2 ^ 64):IntKind.u64.wrap n=n:=by rw [wrapU64];omega
theorem and32 (x:Int) (h0:0≤x) (h1:x<18446744073709551616):bits .and .u64 x 4294967295=x % 4294967296:=bits_mask .u64 64 (by decide) wraps_u64 32 (by decide) x h0 h1
theorem sh32 (x:Int):x.fdiv (2 ^ min 32 IntKind.u64.bits)=x / 4294967296:=by
 have:(2:Int) ^ min 32 IntKind.u64.bits=4294967296:=by decide
 rw [this];exact Int.fdiv_eq_ediv_of_nonneg _ (by decide)
theorem sh16 (x:Int):x.fdiv (2 ^ min 16 IntKind.u64.bits)=x / 65536:=by
 have:(2:Int) ^ min 16 IntKind.u64.bits=65536:=by decide
 rw [this];exact Int.fdiv_eq_ediv_of_nonneg _ (by decide)
theorem sh8 (x:Int):x.fdiv (2 ^ min 8 IntKind.u64.bits)=x / 256:=by
 have:(2:Int) ^ min 8 IntKind.u64.bits=256:=by decide
 rw [this];exact Int.fdiv_eq_ediv_of_nonneg _ (by decide)
def u64B (a:Int):Bool:=decide (0≤a) && decide (a<18446744073709551616)
theorem u64B_iff (a:Int):u64B a=true↔0≤a∧a<18446744073709551616:=by simp [u64B]
def mulHi (a b:Int):Int:=a * b / 18446744073709551616
def mulLo (a b:Int):Int:=a * b % 18446744073709551616
def mulT (a b:Int):Int :=
 IntKind.u64.wrap
  (IntKind.u64.wrap
   (IntKind.u64.wrap (a.fdiv (2 ^ min 32 IntKind.u64.bits) * b.fdiv (2 ^ min 32 IntKind.u64.bits)) +
    (IntKind.u64.wrap
     (IntKind.u64.wrap (a.fdiv (2 ^ min 32 IntKind.u64.bits) * bits BinOp.and IntKind.u64 b 4294967295) +
      (IntKind.u64.wrap (bits BinOp.and IntKind.u64 a 4294967295 * bits BinOp.and IntKind.u64 b 4294967295)).fdiv (2 ^ min 32 IntKind.u64.bits))).fdiv
     (2 ^ min 32 IntKind.u64.bits)) +
   (IntKind.u64.wrap
    (bits BinOp.and IntKind.u64
     (IntKind.u64.wrap
      (IntKind.u64.wrap (a.fdiv (2 ^ min 32 IntKind.u64.bits) * bits BinOp.and IntKind.u64 b 4294967295) +
       (IntKind.u64.wrap (bits BinOp.and IntKind.u64 a 4294967295 * bits BinOp.and IntKind.u64 b 4294967295)).fdiv (2 ^ min 32 IntKind.u64.bits)))
     4294967295 +
     IntKind.u64.wrap (bits BinOp.and IntKind.u64 a 4294967295 * b.fdiv (2 ^ min 32 IntKind.u64.bits)))).fdiv
    (2 ^ min 32 IntKind.u64.bits))
theorem mulT_eq (a b:Int) (ha:0≤a∧a<18446744073709551616) (hb:0≤b∧b<18446744073709551616):mulT a b=mulHi a b:=by
 obtain ⟨x,rfl⟩:=Int.eq_ofNat_of_zero_le ha.1
 obtain ⟨y,rfl⟩:=Int.eq_ofNat_of_zero_le hb.1
 have hx:x<18446744073709551616:=by omega
 have hy:y<18446744073709551616:=by omega
 obtain ⟨m1,m2,m3,m4⟩:=Lib.mul64_hi x y hx hy
 have h1:(x / 4294967296) * (y % 4294967296)≤18446744065119617025:=Lib.half_mul_le (by omega) (by omega)
 have h2:(x % 4294967296) * (y / 4294967296)≤18446744065119617025:=Lib.half_mul_le (by omega) (by omega)
 have h3:(x / 4294967296) * (y / 4294967296)≤18446744065119617025:=Lib.half_mul_le (by omega) (by omega)
 have c0:∀ z:Nat,z<18446744073709551616→IntKind.u64.wrap (z:Int)=z:=fun z hz=>by rw [wrapU64];omega
 have e1:bits .and .u64 (x:Int) 4294967295=((x % 4294967296:Nat):Int):=by rw [and32 _ (by omega) (by omega)];omega
 have e2:bits .and .u64 (y:Int) 4294967295=((y % 4294967296:Nat):Int):=by rw [and32 _ (by omega) (by omega)];omega
 have e3:∀ z:Nat,(z:Int) / 4294967296=((z / 4294967296:Nat):Int):=fun z=>by omega
 unfold mulT mulHi
 rw [e1,e2]
 simp only [sh32,e3,← Int.natCast_mul]
 rw [c0 _ m1]
 simp only [e3,← Int.natCast_add]
 rw [c0 ((x / 4294967296) * (y % 4294967296)) (by omega),c0 ((x % 4294967296) * (y / 4294967296)) (by omega),c0 ((x / 4294967296) * (y / 4294967296)) (by omega)]
 simp only [e3,← Int.natCast_add]
 rw [c0 _ m2]
 have e4:bits .and .u64 (((x / 4294967296) * (y % 4294967296)+(x % 4294967296) * (y % 4294967296) / 4294967296:Nat):Int) 4294967295=((((x / 4294967296) * (y % 4294967296)+(x % 4294967296) * (y % 4294967296) / 4294967296) % 4294967296:Nat):Int):=by
  rw [and32 _ (by omega) (by omega)];omega
 rw [e4]
 simp only [e3,← Int.natCast_add]
 rw [c0 _ m3]
 simp only [e3,← Int.natCast_add]
 have hs:(x / 4294967296) * (y / 4294967296)+((x / 4294967296) * (y % 4294967296)+(x % 4294967296) * (y % 4294967296) / 4294967296) / 4294967296<18446744073709551616:=by omega
 rw [c0 _ hs]
 simp only [← Int.natCast_add]
 rw [m4]
 have hp:x * y<18446744073709551616 * 18446744073709551616:=Nat.mul_lt_mul'' hx hy
 rw [c0 _ (by omega)]
 omega
theorem mul_tree (a b:Int):evFn Try.prog C0 cn0 4 Try.f54 [.v (.int .u64 a),.v (.int .u64 b)] [] 0 K1 =
 some (.tup [.v (.int .u64 (mulT a b)),.v (.int .u64 (IntKind.u64.wrap (a * b)))]):=by kernel_rfl
def cMul:Con:=fun args _=>match args with
 | [.v (.int .u64 a),.v (.int .u64 b)]=>.br (u64B a && u64B b) (.ret ⟨.tup [.v (.int .u64 (mulHi a b)),.v (.int .u64 (mulLo a b))],[]⟩) .fail
 | _=>.fail
theorem cMul_ok:∀ B,ConOk Try.prog B 54 cMul:=con_pure mixed Try.func54 (by kernel_rfl) rfl C0_ok (fun B' w=>cn0_ok B' w _) (by
 intro args lo h out ids hr
 unfold cMul at hr
 split at hr
 · rename_i a b
   obtain ⟨hb,hr⟩:=br_run hr
   cases hr
   refine ⟨rfl,rfl,?_⟩
   simp only [Bool.and_eq_true,u64B_iff] at hb
   rw [mul_tree,mulT_eq a b hb.1 hb.2,wrapU64]
   rfl
 · cases hr)
def lenTab:ByteArray:=⟨#[0,1,2,2,3,3,3,3,4,4,4,4,4,4,4,4,5,5,5,5,5,5,5,5,5,5,5,5,5,5,5,5,6,6,6,6,6,6,6,6,6,6,6,6,6,6,6,6,6,6,6,6,6,6,6,6,6,6,6,6,6,6,6,6,7,7,7,7,7,7,7,7,7,7,7,7,7,7,7,7,7,7,7,7,7,7,7,7,7,7,7,7,7,7,7,7,7,7,7,7,7,7,7,7,7,7,7,7,7,7,7,7,7,7,7,7,7,7,7,7,7,7,7,7,7,7,7,7,8,8,8,8,8,8,8,8,8,8,8,8,8,8,8,8,8,8,8,8,8,8,8,8,8,8,8,8,8,8,8,8,8,8,8,8,8,8,8,8,8,8,8,8,8,8,8,8,8,8,8,8,8,8,8,8,8,8,8,8,8,8,8,8,8,8,8,8,8,8,8,8,8,8,8,8,8,8,8,8,8,8,8,8,8,8,8,8,8,8,8,8,8,8,8,8,8,8,8,8,8,8,8,8,8,8,8,8,8,8,8,8,8,8,8,8,8,8,8,8,8,8,8,8,8,8,8,8]⟩
def lenAt (n x:Int):Option SV:=sel (decide (0≤IntKind.u8.wrap x)) (sel (decide (IntKind.u8.wrap x<256)) (some (.v (.int .i64 (IntKind.i64.wrap (n+IntKind.i64.wrap (bt lenTab (IntKind.u8.wrap x))))))) none) none
def s32 (a:Int):Int:=a.fdiv (2 ^ min 32 IntKind.u64.bits)
def s16 (a:Int):Int:=a.fdiv (2 ^ min 16 IntKind.u64.bits)
def s8 (a:Int):Int:=a.fdiv (2 ^ min 8 IntKind.u64.bits)
theorem len_tree (a:Int):evFn Try.prog C0 cn0 4 Try.f76 [.v (.int .u64 a)] [] 0 K1 =
 sel (decide (4294967296≤a))
  (sel (decide (65536≤s32 a))
   (sel (decide (256≤s16 (s32 a))) (lenAt 56 (s8 (s16 (s32 a)))) (lenAt 48 (s16 (s32 a))))
   (sel (decide (256≤s32 a)) (lenAt 40 (s8 (s32 a))) (lenAt 32 (s32 a))))
  (sel (decide (65536≤a))
   (sel (decide (256≤s16 a)) (lenAt 24 (s8 (s16 a))) (lenAt 16 (s16 a)))
   (sel (decide (256≤a)) (lenAt 8 (s8 a)) (lenAt 0 a))):=by kernel_rfl
def len8 (x:Int):Int:=if x<1 then 0 else if x<2 then 1 else if x<4 then 2 else if x<8 then 3 else if x<16 then 4 else if x<32 then 5 else if x<64 then 6 else if x<128 then 7 else 8
theorem lenTab_eq:∀ x:Nat,x<256→bt lenTab (x:Int)=len8 (x:Int):=by decide +kernel
theorem lenAt_eq (n x:Int) (h0:0≤x) (h1:x<256) (hn:0≤n) (hn':n≤56):lenAt n x=some (.v (.int .i64 (n+len8 x))):=by
 have hw:IntKind.u8.wrap x=x:=by rw [IntKind.wrap_u8];omega
 obtain ⟨y,rfl⟩:=Int.eq_ofNat_of_zero_le h0
 have ht:=lenTab_eq y (by omega)
 have hl:0≤len8 (y:Int)∧len8 (y:Int)≤8:=by unfold len8;(repeat' split)<;>omega
 unfold lenAt
 have e1:IntKind.i64.wrap (len8 (y:Int))=len8 (y:Int):=by rw [IntKind.wrap_i64];omega
 have e2:IntKind.i64.wrap (n+len8 (y:Int))=n+len8 (y:Int):=by rw [IntKind.wrap_i64];omega
 rw [hw,decide_eq_true h0,decide_eq_true h1,ht,sel_true,sel_true,e1,e2]
def lenV (a:Int):Int :=
 if 4294967296≤a then
  (if 65536≤a / 4294967296 then (if 256≤a / 4294967296 / 65536 then 56+len8 (a / 4294967296 / 65536 / 256) else 48+len8 (a / 4294967296 / 65536))
   else (if 256≤a / 4294967296 then 40+len8 (a / 4294967296 / 256) else 32+len8 (a / 4294967296)))
 else
  (if 65536≤a then (if 256≤a / 65536 then 24+len8 (a / 65536 / 256) else 16+len8 (a / 65536))
   else (if 256≤a then 8+len8 (a / 256) else 0+len8 a))
def cLen:Con:=fun args _=>match args with
 | [.v (.int .u64 a)]=>.br (u64B a) (.ret ⟨.v (.int .i64 (lenV a)),[]⟩) .fail
 | _=>.fail
theorem cLen_ok:∀ B,ConOk Try.prog B 76 cLen:=con_pure mixed Try.func76 (by kernel_rfl) rfl C0_ok (fun B' w=>cn0_ok B' w _) (by
 intro args lo h out ids hr
 unfold cLen at hr
 split at hr
 · rename_i a
   obtain ⟨hb,hr⟩:=br_run hr
   cases hr
   refine ⟨rfl,rfl,?_⟩
   rw [u64B_iff] at hb
   rw [len_tree]
   unfold s32 s16 s8
   simp only [sh32,sh16,sh8]
   unfold lenV
   by_cases h1:4294967296≤a
   · rw [decide_eq_true h1,sel_true,if_pos h1]
     by_cases h2:65536≤a / 4294967296
     · rw [decide_eq_true h2,sel_true,if_pos h2]
       by_cases h3:256≤a / 4294967296 / 65536
       · rw [decide_eq_true h3,sel_true,if_pos h3,lenAt_eq _ _ (by omega) (by omega) (by omega) (by omega)]
       · rw [decide_eq_false h3,sel_false,if_neg h3,lenAt_eq _ _ (by omega) (by omega) (by omega) (by omega)]
     · rw [decide_eq_false h2,sel_false,if_neg h2]
       by_cases h3:256≤a / 4294967296
       · rw [decide_eq_true h3,sel_true,if_pos h3,lenAt_eq _ _ (by omega) (by omega) (by omega) (by omega)]
       · rw [decide_eq_false h3,sel_false,if_neg h3,lenAt_eq _ _ (by omega) (by omega) (by omega) (by omega)]
   · rw [decide_eq_false h1,sel_false,if_neg h1]
     by_cases h2:65536≤a
     · rw [decide_eq_true h2,sel_true,if_pos h2]
       by_cases h3:256≤a / 65536
       · rw [decide_eq_true h3,sel_true,if_pos h3,lenAt_eq _ _ (by omega) (by omega) (by omega) (by omega)]
       · rw [decide_eq_false h3,sel_false,if_neg h3,lenAt_eq _ _ (by omega) (by omega) (by omega) (by omega)]
     · rw [decide_eq_false h2,sel_false,if_neg h2]
       by_cases h3:256≤a
       · rw [decide_eq_true h3,sel_true,if_pos h3,lenAt_eq _ _ (by omega) (by omega) (by omega) (by omega)]
       · rw [decide_eq_false h3,sel_false,if_neg h3,lenAt_eq _ _ (by omega) (by omega) (by omega) (by omega)]
 · cases hr)
def lzV (a:Int):Int:=64 - lenV a
def CLen:FuncId→Option Con
 | 76=>some cLen
 | _=>none
theorem CLen_ok:∀ B' g φ,CLen g=some φ→ConOk Try.prog B' g φ:=by
 intro B' g φ h
 unfold CLen at h
 split at h
 · cases h;exact cLen_ok B'
 · cases h
theorem lz_tree (a:Int):evFn Try.prog CLen cn0 4 Try.f68 [.v (.int .u64 a)] [] 0 K1 =
 sel (u64B a) (some (.v (.int .i64 (IntKind.i64.wrap (64 - lenV a))))) none:=by kernel_rfl
theorem lenV_bd (a:Int):0≤lenV a∧lenV a≤64:=by
 have:∀ x,0≤len8 x∧len8 x≤8:=fun x=>by unfold len8;(repeat' split)<;>omega
 unfold lenV
 have h1:=this (a / 4294967296 / 65536 / 256)
 have h2:=this (a / 4294967296 / 65536)
 have h3:=this (a / 4294967296 / 256)
 have h4:=this (a / 4294967296)
 have h5:=this (a / 65536 / 256)
 have h6:=this (a / 65536)
 have h7:=this (a / 256)
 have h8:=this a
 (repeat' split)<;>omega
def cLz:Con:=fun args _=>match args with
 | [.v (.int .u64 a)]=>.br (u64B a) (.ret ⟨.v (.int .i64 (lzV a)),[]⟩) .fail
 | _=>.fail
theorem cLz_ok:∀ B,ConOk Try.prog B 68 cLz:=con_pure mixed Try.func68 (by kernel_rfl) rfl CLen_ok (fun B' w=>cn0_ok B' w _) (by
 intro args lo h out ids hr
 unfold cLz at hr
 split at hr
 · rename_i a
   obtain ⟨hb,hr⟩:=br_run hr
   cases hr
   refine ⟨rfl,rfl,?_⟩
   have:=lenV_bd a
   have hw:IntKind.i64.wrap (64 - lenV a)=lzV a:=by rw [IntKind.wrap_i64];unfold lzV;omega
   rw [lz_tree,hb,sel_true,hw]
 · cases hr)
end Go.Proofs.Ytlfkfajodnkkhaa.Ax
namespace Go.Proofs.Ytlfkfajodnkkhaa.Ax
open Go Go.RowKit
set_option linter.unusedVariables false
set_option linter.unusedSimpArgs false
structure Dg (v1 v0 U n:Int):Prop where
 v1l:2147483648≤v1
 v1u:v1<4294967296
 v0l:0≤v0
 v0u:v0<4294967296
 nl:0≤n
 nu:n<4294967296
 ul:0≤U
 uy:U<v1 * 4294967296+v0
def qtV (v1 v0 U n:Int):Int:=(U * 4294967296+n) / (v1 * 4294967296+v0)
structure Iv (v1 v0 U n q r:Int):Prop where
 qge:qtV v1 v0 U n≤q
 qle:q≤4294967297
 rq:r=U - q * v1
 rl:0≤r
 ru:r<4294967296
theorem qt_le {v1 v0 U n q:Int} (d:Dg v1 v0 U n):q≤qtV v1 v0 U n↔q * v1 * 4294967296+q * v0≤U * 4294967296+n:=by
 have hy:0<v1 * 4294967296+v0:=by have:=d.v1l;have:=d.v0l;omega
 have e:q * (v1 * 4294967296+v0)=q * v1 * 4294967296+q * v0:=by rw [Int.mul_add,Int.mul_assoc]
 unfold qtV
 rw [Int.le_ediv_iff_mul_le hy,e]
theorem qt_lt {v1 v0 U n q:Int} (d:Dg v1 v0 U n):qtV v1 v0 U n<q↔U * 4294967296+n<q * v1 * 4294967296+q * v0:=by
 have:=qt_le (q:=q) d
 omega
theorem qt_bd {v1 v0 U n:Int} (d:Dg v1 v0 U n):0≤qtV v1 v0 U n∧qtV v1 v0 U n<4294967296:=by
 obtain ⟨a,b,c,e,f,g,h,i⟩:=d
 have d:Dg v1 v0 U n:=⟨a,b,c,e,f,g,h,i⟩
 refine ⟨(qt_le d).2 (by rw [Int.zero_mul,Int.zero_mul];omega),(qt_lt d).2 ?_⟩
 omega
theorem iv_start {v1 v0 U n:Int} (d:Dg v1 v0 U n):Iv v1 v0 U n (U / v1) (U - U / v1 * v1):=by
 obtain ⟨a,b,c,e,f,g,h,i⟩:=d
 have d:Dg v1 v0 U n:=⟨a,b,c,e,f,g,h,i⟩
 have hv:0<v1:=by omega
 have h1:U / v1 * v1≤U:=Int.ediv_mul_le _ (by omega)
 have h2:U<(U / v1+1) * v1:=Int.lt_ediv_add_one_mul_self _ hv
 have h3:(U / v1+1) * v1=U / v1 * v1+v1:=by rw [Int.add_mul,Int.one_mul]
 have hq:U / v1<4294967298:=Int.ediv_lt_of_lt_mul hv (by omega)
 have hq0:0≤U / v1:=Int.ediv_nonneg h (by omega)
 refine ⟨?_,by omega,rfl,by omega,by omega⟩
 have:qtV v1 v0 U n<U / v1+1:=(qt_lt d).2 (by
  have h4:0≤(U / v1+1) * v0:=Int.mul_nonneg (by omega) c
  rw [h3]
  omega)
 omega
theorem iv_more {v1 v0 U n q r:Int} (d:Dg v1 v0 U n) (v:Iv v1 v0 U n q r) (h:4294967296≤q∨4294967296 * r+n<q * v0):qtV v1 v0 U n<q:=by
 rcases h with h|h
 · have:=qt_bd d;omega
 · refine (qt_lt d).2 ?_
   have:=v.rq
   omega
theorem iv_done {v1 v0 U n q r:Int} (d:Dg v1 v0 U n) (v:Iv v1 v0 U n q r) (h:¬ 4294967296 * r+n<q * v0):q=qtV v1 v0 U n:=by
 have h1:=v.qge
 have h2:q≤qtV v1 v0 U n:=(qt_le d).2 (by have:=v.rq;omega)
 omega
theorem iv_next {v1 v0 U n q r:Int} (d:Dg v1 v0 U n) (v:Iv v1 v0 U n q r) (h:qtV v1 v0 U n<q) (hr:r+v1<4294967296):Iv v1 v0 U n (q - 1) (r+v1):=by
 obtain ⟨a,b,c,e,f⟩:=v
 have:=d.v1l
 have h3:(q - 1) * v1=q * v1 - v1:=by rw [Int.sub_mul,Int.one_mul]
 exact ⟨by omega,by omega,by rw [h3];omega,by omega,hr⟩
theorem iv_brk {v1 v0 U n q r:Int} (d:Dg v1 v0 U n) (v:Iv v1 v0 U n q r) (h:qtV v1 v0 U n<q) (hr:4294967296≤r+v1):q - 1=qtV v1 v0 U n:=by
 obtain ⟨a,b,c,e,f⟩:=v
 have hb:=qt_bd d
 have h3:(q - 1) * v1=q * v1 - v1:=by rw [Int.sub_mul,Int.one_mul]
 have h4:(q - 1) * v0≤4294967296 * 4294967295:=Int.mul_le_mul (by omega) (by have:=d.v0u;omega) d.v0l (by omega)
 have:q - 1≤qtV v1 v0 U n:=(qt_le d).2 (by
  rw [h3]
  have:=d.nl
  omega)
 omega
theorem left_eq {v1 v0 U n:Int} (d:Dg v1 v0 U n):U * 4294967296+n - qtV v1 v0 U n * (v1 * 4294967296+v0)=(U * 4294967296+n) % (v1 * 4294967296+v0):=by
 have:=Int.emod_def (U * 4294967296+n) (v1 * 4294967296+v0)
 unfold qtV
 rw [this,Int.mul_comm (v1 * 4294967296+v0)]
theorem wrap_left (X Q y:Int) (h0:0≤X - Q) (h1:X - Q<y) (hy:y<18446744073709551616) (x1 x2:Int) (hX:X=x1 * 4294967296+x2) :
 IntKind.u64.wrap (IntKind.u64.wrap (IntKind.u64.wrap (x1 * 4294967296)+x2) - IntKind.u64.wrap Q)=X - Q:=by
 rw [wrapU64,wrapU64,wrapU64,wrapU64]
 omega
theorem two_digits (N y n0:Int) (hy:0<y):(N * 4294967296+n0) / y=N / y * 4294967296+(N % y * 4294967296+n0) / y∧(N * 4294967296+n0) % y=(N % y * 4294967296+n0) % y:=by
 have e:N * 4294967296+n0=(N % y * 4294967296+n0)+N / y * 4294967296 * y:=by
  have:=Int.mul_ediv_add_emod N y
  have h2:N / y * 4294967296 * y=y * (N / y) * 4294967296:=by rw [Int.mul_assoc,Int.mul_comm 4294967296 y,← Int.mul_assoc,Int.mul_comm (N / y) y]
  rw [h2]
  omega
 constructor
 · rw [e,Int.add_mul_ediv_right _ _ (by omega)]
   omega
 · rw [e,Int.add_mul_emod_self_right]
theorem shifted (a b c s64:Int) (p:Int) (hp:0<p) (hc:0<c):((a * 18446744073709551616+b) * p) / (c * p)=(a * 18446744073709551616+b) / c∧((a * 18446744073709551616+b) * p) % (c * p) / p=(a * 18446744073709551616+b) % c:=by
 refine ⟨Int.mul_ediv_mul_of_pos_left _ _ hp,?_⟩
 have:((a * 18446744073709551616+b) * p) % (c * p)=((a * 18446744073709551616+b) % c) * p:=by
  rw [Int.mul_comm _ p,Int.mul_comm c p,Int.mul_emod_mul_of_pos _ _ hp,Int.mul_comm]
 rw [this,Int.mul_ediv_cancel _ (by omega)]
theorem lz_spec (c:Int) (h0:1≤c) (h1:c<18446744073709551616):∃ s:Nat,s≤63∧lzV c=s∧9223372036854775808≤c * 2 ^ s∧c * 2 ^ s<18446744073709551616:=by
 have pick:∀ (k:Nat) (x:Int),1≤x→x<256→k % 8=0→k≤56→x * 2 ^ k≤c→c<(x+1) * 2 ^ k→lenV c=k+len8 x→∃ s:Nat,s≤63∧lzV c=s∧9223372036854775808≤c * 2 ^ s∧c * 2 ^ s<18446744073709551616:=by
  intro k x hx1 hx2 hk hk2 hc1 hc2 hl
  have hl8:(x<2∧len8 x=1)∨(2≤x∧x<4∧len8 x=2)∨(4≤x∧x<8∧len8 x=3)∨(8≤x∧x<16∧len8 x=4)∨(16≤x∧x<32∧len8 x=5)∨(32≤x∧x<64∧len8 x=6)∨(64≤x∧x<128∧len8 x=7)∨(128≤x∧len8 x=8):=by
   unfold len8
   (repeat' split)<;>omega
  have hkk:k=0∨k=8∨k=16∨k=24∨k=32∨k=40∨k=48∨k=56:=by omega
  have fin:∀ n8:Nat,1≤n8→n8≤8→len8 x=n8→(9223372036854775808≤c * 2 ^ (64 - k - n8)∧c * 2 ^ (64 - k - n8)<18446744073709551616)→∃ s:Nat,s≤63∧lzV c=s∧9223372036854775808≤c * 2 ^ s∧c * 2 ^ s<18446744073709551616:=by
   intro n8 g1 g2 g3 g4
   exact ⟨64 - k - n8,by omega,by unfold lzV;rw [hl];omega,g4⟩
  have hkk:k=0∨k=8∨k=16∨k=24∨k=32∨k=40∨k=48∨k=56:=by omega
  rcases hl8 with ⟨h2,e⟩|⟨h1,h2,e⟩|⟨h1,h2,e⟩|⟨h1,h2,e⟩|⟨h1,h2,e⟩|⟨h1,h2,e⟩|⟨h1,h2,e⟩|⟨h1,e⟩
  · refine fin 1 (by decide) (by decide) e ?_
    clear fin e hl
    rcases hkk with rfl|rfl|rfl|rfl|rfl|rfl|rfl|rfl<;>(simp only [Nat.reduceSub,Int.reducePow] at hc1 hc2 ⊢;omega)
  · refine fin 2 (by decide) (by decide) e ?_
    clear fin e hl
    rcases hkk with rfl|rfl|rfl|rfl|rfl|rfl|rfl|rfl<;>(simp only [Nat.reduceSub,Int.reducePow] at hc1 hc2 ⊢;omega)
  · refine fin 3 (by decide) (by decide) e ?_
    clear fin e hl
    rcases hkk with rfl|rfl|rfl|rfl|rfl|rfl|rfl|rfl<;>(simp only [Nat.reduceSub,Int.reducePow] at hc1 hc2 ⊢;omega)
  · refine fin 4 (by decide) (by decide) e ?_
    clear fin e hl
    rcases hkk with rfl|rfl|rfl|rfl|rfl|rfl|rfl|rfl<;>(simp only [Nat.reduceSub,Int.reducePow] at hc1 hc2 ⊢;omega)
  · refine fin 5 (by decide) (by decide) e ?_
    clear fin e hl
    rcases hkk with rfl|rfl|rfl|rfl|rfl|rfl|rfl|rfl<;>(simp only [Nat.reduceSub,Int.reducePow] at hc1 hc2 ⊢;omega)
  · refine fin 6 (by decide) (by decide) e ?_
    clear fin e hl
    rcases hkk with rfl|rfl|rfl|rfl|rfl|rfl|rfl|rfl<;>(simp only [Nat.reduceSub,Int.reducePow] at hc1 hc2 ⊢;omega)
  · refine fin 7 (by decide) (by decide) e ?_
    clear fin e hl
    rcases hkk with rfl|rfl|rfl|rfl|rfl|rfl|rfl|rfl<;>(simp only [Nat.reduceSub,Int.reducePow] at hc1 hc2 ⊢;omega)
  · refine fin 8 (by decide) (by decide) e ?_
    clear fin e hl
    rcases hkk with rfl|rfl|rfl|rfl|rfl|rfl|rfl|rfl<;>(simp only [Nat.reduceSub,Int.reducePow] at hc1 hc2 ⊢;omega)
 unfold lenV at pick
 by_cases a1:4294967296≤c
 · by_cases a2:65536≤c / 4294967296
   · by_cases a3:256≤c / 4294967296 / 65536
     · exact pick 56 (c / 4294967296 / 65536 / 256) (by omega) (by omega) (by decide) (by decide) (by omega) (by omega) (by rw [if_pos a1,if_pos a2,if_pos a3];rfl)
     · exact pick 48 (c / 4294967296 / 65536) (by omega) (by omega) (by decide) (by decide) (by omega) (by omega) (by rw [if_pos a1,if_pos a2,if_neg a3];rfl)
   · by_cases a3:256≤c / 4294967296
     · exact pick 40 (c / 4294967296 / 256) (by omega) (by omega) (by decide) (by decide) (by omega) (by omega) (by rw [if_pos a1,if_neg a2,if_pos a3];rfl)
     · exact pick 32 (c / 4294967296) (by omega) (by omega) (by decide) (by decide) (by omega) (by omega) (by rw [if_pos a1,if_neg a2,if_neg a3];rfl)
 · by_cases a2:65536≤c
   · by_cases a3:256≤c / 65536
     · exact pick 24 (c / 65536 / 256) (by omega) (by omega) (by decide) (by decide) (by omega) (by omega) (by rw [if_neg a1,if_pos a2,if_pos a3];rfl)
     · exact pick 16 (c / 65536) (by omega) (by omega) (by decide) (by decide) (by omega) (by omega) (by rw [if_neg a1,if_pos a2,if_neg a3];rfl)
   · by_cases a3:256≤c
     · exact pick 8 (c / 256) (by omega) (by omega) (by decide) (by decide) (by omega) (by omega) (by rw [if_neg a1,if_neg a2,if_pos a3];rfl)
     · exact pick 0 c (by omega) (by omega) (by decide) (by decide) (by omega) (by omega) (by rw [if_neg a1,if_neg a2,if_neg a3];rfl)
end Go.Proofs.Ytlfkfajodnkkhaa.Ax
namespace Go.Proofs.Ytlfkfajodnkkhaa.Ax
open Go Go.RowKit
set_option linter.unusedVariables false
set_option linter.unusedSimpArgs false
def TDiv:Nat→Option (List Nat)
 | 17=>some [2,8,9,10,11,13,14,15,16]
 | 24=>some [2,8,9,10,14,15,16,17,18]
 | _=>none
def CLz:FuncId→Option Con
 | 68=>some cLz
 | _=>none
theorem CLz_ok:∀ B' g φ,CLz g=some φ→ConOk Try.prog B' g φ:=by
 intro B' g φ h
 unfold CLz at h
 split at h
 · cases h;exact cLz_ok B'
 · cases h
def pD1:List Dir:=[.R,.R,.R,.R,.R,.R,.R,.R,.R,.R,.R,.R,.R,.R,.L,.D]
def pD2:List Dir:=[.R,.R,.R,.R,.R,.R,.R,.R,.R,.R,.R,.R,.R,.R,.R,.R,.R,.R,.L,.D]
def HD1 (q r y s yn1 yn0 un32 un1 un0:Int):St:=⟨[(2,.v (.int .u64 y)),(8,.v (.int .u64 s)),(9,.v (.int .u64 yn1)),(10,.v (.int .u64 yn0)),(11,.v (.int .u64 un32)),(13,.v (.int .u64 un1)),(14,.v (.int .u64 un0)),(15,.v (.int .u64 q)),(16,.v (.int .u64 r))],[],0⟩
def HD2 (q0 rh y s yn1 yn0 un0 q1 un21:Int):St:=⟨[(2,.v (.int .u64 y)),(8,.v (.int .u64 s)),(9,.v (.int .u64 yn1)),(10,.v (.int .u64 yn0)),(14,.v (.int .u64 un0)),(15,.v (.int .u64 q1)),(16,.v (.int .u64 rh)),(17,.v (.int .u64 un21)),(18,.v (.int .u64 q0))],[],0⟩
noncomputable def LD1 (F k:Nat) (q r y s yn1 yn0 un32 un1 un0:Int):Option SV:=loopAt (eff Try.prog CLz) Try.f55.ntmps (cnOf 0 TDiv) F Try.prog Try.f55 K1 pD1 k (HD1 q r y s yn1 yn0 un32 un1 un0)
noncomputable def LD2 (F k:Nat) (q0 rh y s yn1 yn0 un0 q1 un21:Int):Option SV:=loopAt (eff Try.prog CLz) Try.f55.ntmps (cnOf 0 TDiv) F Try.prog Try.f55 K1 pD2 k (HD2 q0 rh y s yn1 yn0 un0 q1 un21)
def finD (q0 y s un0 q1 un21:Int):Option SV:=sel (decide (s<0)) none
 (some (.tup [.v (.int .u64 (IntKind.u64.wrap (IntKind.u64.wrap (q1 * 4294967296)+q0))),.v (.int .u64 ((IntKind.u64.wrap (IntKind.u64.wrap (IntKind.u64.wrap (un21 * 4294967296)+un0) - IntKind.u64.wrap (q0 * y))).fdiv (2 ^ min s.toNat IntKind.u64.bits)))]))
theorem LD2_eq (F k:Nat) (q0 rh y s yn1 yn0 un0 q1 un21:Int):LD2 F (k+1) q0 rh y s yn1 yn0 un0 q1 un21 =
 sel (decide (4294967296≤q0))
  (sel (decide (4294967296≤IntKind.u64.wrap (rh+yn1))) (finD (IntKind.u64.wrap (q0 - 1)) y s un0 q1 un21) (LD2 F k (IntKind.u64.wrap (q0 - 1)) (IntKind.u64.wrap (rh+yn1)) y s yn1 yn0 un0 q1 un21))
  (sel (decide (IntKind.u64.wrap (IntKind.u64.wrap (4294967296 * rh)+un0)<IntKind.u64.wrap (q0 * yn0)))
   (sel (decide (4294967296≤IntKind.u64.wrap (rh+yn1))) (finD (IntKind.u64.wrap (q0 - 1)) y s un0 q1 un21) (LD2 F k (IntKind.u64.wrap (q0 - 1)) (IntKind.u64.wrap (rh+yn1)) y s yn1 yn0 un0 q1 un21))
   (finD q0 y s un0 q1 un21)):=by kernel_rfl
def un21V (q y un32 un1:Int):Int:=IntKind.u64.wrap (IntKind.u64.wrap (IntKind.u64.wrap (un32 * 4294967296)+un1) - IntKind.u64.wrap (q * y))
noncomputable def postD (F:Nat) (q y s yn1 yn0 un32 un1 un0:Int):Option SV:=sel (decide (yn1=0)) none
 (LD2 F F (IntKind.u64.wrap ((un21V q y un32 un1).tdiv yn1)) (IntKind.u64.wrap (un21V q y un32 un1 - IntKind.u64.wrap (IntKind.u64.wrap ((un21V q y un32 un1).tdiv yn1) * yn1))) y s yn1 yn0 un0 q (un21V q y un32 un1))
theorem LD1_eq (F k:Nat) (q r y s yn1 yn0 un32 un1 un0:Int):LD1 F (k+1) q r y s yn1 yn0 un32 un1 un0 =
 sel (decide (4294967296≤q))
  (sel (decide (4294967296≤IntKind.u64.wrap (r+yn1))) (postD F (IntKind.u64.wrap (q - 1)) y s yn1 yn0 un32 un1 un0) (LD1 F k (IntKind.u64.wrap (q - 1)) (IntKind.u64.wrap (r+yn1)) y s yn1 yn0 un32 un1 un0))
  (sel (decide (IntKind.u64.wrap (IntKind.u64.wrap (4294967296 * r)+un1)<IntKind.u64.wrap (q * yn0)))
   (sel (decide (4294967296≤IntKind.u64.wrap (r+yn1))) (postD F (IntKind.u64.wrap (q - 1)) y s yn1 yn0 un32 un1 un0) (LD1 F k (IntKind.u64.wrap (q - 1)) (IntKind.u64.wrap (r+yn1)) y s yn1 yn0 un32 un1 un0))
   (postD F q y s yn1 yn0 un32 un1 un0)):=by kernel_rfl
def sD (c:Int):Int:=IntKind.u64.wrap (lzV c)
def yD (c:Int):Int:=IntKind.u64.wrap (c * 2 ^ min (sD c).toNat IntKind.u64.bits)
def y1D (c:Int):Int:=(yD c).fdiv (2 ^ min 32 IntKind.u64.bits)
def u32D (a b c:Int):Int:=bits BinOp.or IntKind.u64 (IntKind.u64.wrap (a * 2 ^ min (sD c).toNat IntKind.u64.bits)) (b.fdiv (2 ^ min (IntKind.u64.wrap (64 - sD c)).toNat IntKind.u64.bits))
def u10D (b c:Int):Int:=IntKind.u64.wrap (b * 2 ^ min (sD c).toNat IntKind.u64.bits)
theorem div_tree (F:Nat) (a b c:Int):evFn Try.prog CLz (cnOf 0 TDiv) F Try.f55 [.v (.int .u64 a),.v (.int .u64 b),.v (.int .u64 c)] [] 0 K1 =
 sel (c == 0) none (sel (decide (c≤a)) none
  (sel (a == 0) (sel (decide (c=0)) none (sel (decide (c=0)) none (some (.tup [.v (.int .u64 (IntKind.u64.wrap (b.tdiv c))),.v (.int .u64 (b.tmod c))]))))
   (sel (u64B c) (sel (decide (sD c<0)) none (sel (decide (sD c<0)) none (sel (decide (IntKind.u64.wrap (64 - sD c)<0)) none (sel (decide (sD c<0)) none
    (sel (decide (y1D c=0)) none
     (LD1 F F (IntKind.u64.wrap ((u32D a b c).tdiv (y1D c))) (IntKind.u64.wrap (u32D a b c - IntKind.u64.wrap (IntKind.u64.wrap ((u32D a b c).tdiv (y1D c)) * y1D c))) (yD c) (sD c) (y1D c) (bits BinOp.and IntKind.u64 (yD c) 4294967295) (u32D a b c)
      ((u10D b c).fdiv (2 ^ min 32 IntKind.u64.bits)) (bits BinOp.and IntKind.u64 (u10D b c) 4294967295))))))) none))):=by kernel_rfl
end Go.Proofs.Ytlfkfajodnkkhaa.Ax
namespace Go.Proofs.Ytlfkfajodnkkhaa.Ax
open Go Go.RowKit
set_option linter.unusedVariables false
set_option linter.unusedSimpArgs false
theorem w64_in (x:Int) (h0:0≤x) (h1:x<18446744073709551616):IntKind.u64.wrap x=x:=by rw [wrapU64];omega
theorem digit_loop {v1 v0 U n:Int} (d:Dg v1 v0 U n) (L:Nat→Int→Int→Option SV) (post:Int→Option SV)
 (heq:∀ k q r,L (k+1) q r=sel (decide (4294967296≤q))
  (sel (decide (4294967296≤IntKind.u64.wrap (r+v1))) (post (IntKind.u64.wrap (q - 1))) (L k (IntKind.u64.wrap (q - 1)) (IntKind.u64.wrap (r+v1))))
  (sel (decide (IntKind.u64.wrap (IntKind.u64.wrap (4294967296 * r)+n)<IntKind.u64.wrap (q * v0)))
   (sel (decide (4294967296≤IntKind.u64.wrap (r+v1))) (post (IntKind.u64.wrap (q - 1))) (L k (IntKind.u64.wrap (q - 1)) (IntKind.u64.wrap (r+v1))))
   (post q))) (q r:Int) (v:Iv v1 v0 U n q r):L 3 q r=post (qtV v1 v0 U n):=by
 have hb:=qt_bd d
 have step:∀ k q r,Iv v1 v0 U n q r→L (k+1) q r=post (qtV v1 v0 U n)∨(Iv v1 v0 U n (q - 1) (r+v1)∧L (k+1) q r=L k (q - 1) (r+v1)):=by
  intro k q r v
  have c1:=d.v1l
  have c2:=d.v1u
  have c3:=d.v0l
  have c4:=d.v0u
  have c5:=d.nl
  have c6:=d.nu
  have k1:=v.qge
  have k2:=v.qle
  have k3:=v.rl
  have k4:=v.ru
  have w1:IntKind.u64.wrap (r+v1)=r+v1:=w64_in _ (by omega) (by omega)
  have more:qtV v1 v0 U n<q→sel (decide (4294967296≤IntKind.u64.wrap (r+v1))) (post (IntKind.u64.wrap (q - 1))) (L k (IntKind.u64.wrap (q - 1)) (IntKind.u64.wrap (r+v1)))=post (qtV v1 v0 U n)∨
   (Iv v1 v0 U n (q - 1) (r+v1)∧sel (decide (4294967296≤IntKind.u64.wrap (r+v1))) (post (IntKind.u64.wrap (q - 1))) (L k (IntKind.u64.wrap (q - 1)) (IntKind.u64.wrap (r+v1)))=L k (q - 1) (r+v1)):=by
   intro hq
   have w2:IntKind.u64.wrap (q - 1)=q - 1:=w64_in _ (by omega) (by omega)
   rw [w1,w2]
   by_cases hr:4294967296≤r+v1
   · left
     rw [decide_eq_true hr,sel_true,iv_brk d v hq hr]
   · right
     exact ⟨iv_next d v hq (by omega),by rw [decide_eq_false hr,sel_false]⟩
  rw [heq]
  by_cases h1:4294967296≤q
  · rw [decide_eq_true h1,sel_true]
    exact more (iv_more d v (.inl h1))
  · rw [decide_eq_false h1,sel_false]
    have hq0:0≤q * v0:=Int.mul_nonneg (by omega) c3
    have hq1:q * v0≤4294967295 * 4294967295:=Int.mul_le_mul (by omega) (by omega) c3 (by omega)
    have w3:IntKind.u64.wrap (4294967296 * r)=4294967296 * r:=w64_in _ (by omega) (by omega)
    have w4:IntKind.u64.wrap (4294967296 * r+n)=4294967296 * r+n:=w64_in _ (by omega) (by omega)
    have w5:IntKind.u64.wrap (q * v0)=q * v0:=w64_in _ hq0 (by omega)
    rw [w3,w4,w5]
    by_cases h2:4294967296 * r+n<q * v0
    · rw [decide_eq_true h2,sel_true]
      exact more (iv_more d v (.inr h2))
    · rw [decide_eq_false h2,sel_false]
      left
      rw [iv_done d v h2]
 have c1:=d.v1l
 rcases step 2 q r v with h|⟨v1',h⟩
 · exact h
 · rw [h]
   rcases step 1 _ _ v1' with h'|⟨v2',h'⟩
   · exact h'
   · rw [h']
     rcases step 0 _ _ v2' with h''|⟨v3',h''⟩
     · exact h''
     · have:=v3'.ru
       have:=v2'.rl
       have:=v1'.rl
       have:=v.rl
       omega
def divQ (a b c:Int):Int:=(a * 18446744073709551616+b) / c
def divR (a b c:Int):Int:=(a * 18446744073709551616+b) % c
def divOk (a b c:Int):Bool:=decide (0≤a) && (decide (a<c) && (u64B b && u64B c))
theorem start_eq {v1 U:Int} (h1:2147483648≤v1) (h2:v1<4294967296) (h3:0≤U) (h4:U<18446744073709551616) :
 IntKind.u64.wrap (U.tdiv v1)=U / v1∧IntKind.u64.wrap (U - IntKind.u64.wrap (IntKind.u64.wrap (U.tdiv v1) * v1))=U - U / v1 * v1:=by
 have e:U.tdiv v1=U / v1:=Int.tdiv_eq_ediv_of_nonneg h3
 have b1:0≤U / v1:=Int.ediv_nonneg h3 (by omega)
 have b2:U / v1≤U:=Int.ediv_le_self _ h3
 have b3:U / v1 * v1≤U:=Int.ediv_mul_le _ (by omega)
 have b4:0≤U / v1 * v1:=Int.mul_nonneg b1 (by omega)
 have e2:IntKind.u64.wrap (U / v1)=U / v1:=w64_in _ b1 (by omega)
 rw [e,e2,w64_in (U / v1 * v1) b4 (by omega),w64_in _ (by omega) (by omega)]
 exact ⟨rfl,rfl⟩
structure Nrm (a b c:Int) (s:Nat) (p Y U V:Int):Prop where
 s63:s≤63
 pe:p=2 ^ s
 pp:0<p
 sd:sD c=(s:Int)
 yd:yD c=Y
 ud:u32D a b c=U
 vd:u10D b c=V
 ye:c * p=Y
 yl:9223372036854775808≤Y
 yu:Y<18446744073709551616
 ul:0≤U
 uy:U<Y
 vl:0≤V
 vu:V<18446744073709551616
 whole:U * 18446744073709551616+V=(a * 18446744073709551616+b) * p
theorem nrm (a b c:Int) (ha:0<a) (hac:a<c) (hb0:0≤b) (hb1:b<18446744073709551616) (hc1:c<18446744073709551616):∃ s p Y U V,Nrm a b c s p Y U V:=by
 obtain ⟨s,s1,s2,s3,s4⟩:=lz_spec c (by omega) hc1
 have hp:(0:Int)<2 ^ s:=Int.pow_pos (by decide)
 -- the power and what makes the whole with it
 obtain ⟨p,hpe⟩:∃ p:Int,p=2 ^ s:=⟨_,rfl⟩
 obtain ⟨p',hpe'⟩:∃ p':Int,p'=2 ^ (64 - s):=⟨_,rfl⟩
 have hp':0<p':=by rw [hpe'];exact Int.pow_pos (by decide)
 have hpp:p * p'=18446744073709551616:=by
  rw [hpe,hpe',← Int.pow_add,show s+(64 - s)=64 by omega];rfl
 rw [← hpe] at s3 s4 hp
 have esD:sD c=(s:Int):=by unfold sD;rw [s2,w64_in _ (by omega) (by omega)]
 have emin:min (sD c).toNat IntKind.u64.bits=s:=by rw [esD,Int.toNat_natCast];show min s 64=s;omega
 have eyD:yD c=c * p:=by unfold yD;rw [emin,← hpe,w64_in _ (by omega) s4]
 have e64:IntKind.u64.wrap (64 - sD c)=64 - (s:Int):=by rw [esD,w64_in _ (by omega) (by omega)]
 have emin':min (IntKind.u64.wrap (64 - sD c)).toNat IntKind.u64.bits=64 - s:=by
  rw [e64];show min (64 - (s:Int)).toNat 64=64 - s;omega
 have hap:a * p<18446744073709551616:=by
  have:a * p≤(c - 1) * p:=Int.mul_le_mul_of_nonneg_right (by omega) (by omega)
  rw [Int.sub_mul,Int.one_mul] at this
  omega
 have hap0:0≤a * p:=Int.mul_nonneg (by omega) (by omega)
 have ebs:b.fdiv (2 ^ (64 - s))=b / p':=by rw [← hpe'];exact Int.fdiv_eq_ediv_of_nonneg _ (by omega)
 have hbp0:0≤b / p':=Int.ediv_nonneg hb0 (by omega)
 have hbp1:b / p' < p:=Int.ediv_lt_of_lt_mul hp' (by rw [hpp];exact hb1)
 have hp64:p<18446744073709551616:=by
  have:1 * p≤c * p:=Int.mul_le_mul_of_nonneg_right (by omega) (by omega)
  omega
 have eu32:u32D a b c=a * p+b / p':=by
  unfold u32D
  rw [emin,emin',ebs,← hpe,w64_in _ hap0 hap]
  refine bits_join .u64 64 (by decide) wraps_u64 s _ _ hap0 ?_ (by omega) hbp0 (by rw [← hpe];exact hbp1) (by omega)
  rw [← hpe]
  exact Int.mul_emod_left _ _
 have eu10:u10D b c=b * p % 18446744073709551616:=by unfold u10D;rw [emin,← hpe,wrapU64]
 -- the whole,taken by the power
 have hbq:b * p / 18446744073709551616=b / p':=by
  rw [← hpp,Int.mul_comm b p]
  exact Int.mul_ediv_mul_of_pos _ _ hp
 have whole:u32D a b c * 18446744073709551616+u10D b c=(a * 18446744073709551616+b) * p:=by
  rw [eu32,eu10]
  have e1:(a * 18446744073709551616+b) * p=a * p * 18446744073709551616+b * p:=by
   rw [Int.add_mul,Int.mul_assoc,Int.mul_comm 18446744073709551616 p,← Int.mul_assoc]
  rw [e1,← hbq]
  omega
 have hu32:u32D a b c<c * p:=by
  rw [eu32]
  have:a * p+p≤c * p:=by
   have:(a+1) * p≤c * p:=Int.mul_le_mul_of_nonneg_right (by omega) (by omega)
   rwa [Int.add_mul,Int.one_mul] at this
  omega
 have hu320:0≤u32D a b c:=by rw [eu32];omega
 have hu10:0≤u10D b c∧u10D b c<18446744073709551616:=by rw [eu10];omega
 exact ⟨s,p,c * p,_,_,s1,hpe,hp,esD,eyD,rfl,rfl,rfl,s3,s4,hu320,hu32,hu10.1,hu10.2,whole⟩
theorem div_loops (Y U V:Int) (s:Nat) (hs:s≤63) (yl:9223372036854775808≤Y) (yu:Y<18446744073709551616) (ul:0≤U) (uy:U<Y) (vl:0≤V) (vu:V<18446744073709551616) :
 LD1 3 3 (U / (Y / 4294967296)) (U - U / (Y / 4294967296) * (Y / 4294967296)) Y s (Y / 4294967296) (Y % 4294967296) U (V / 4294967296) (V % 4294967296) =
  some (.tup [.v (.int .u64 ((U * 18446744073709551616+V) / Y)),.v (.int .u64 (((U * 18446744073709551616+V) % Y) / 2 ^ s))]):=by
 have d1:Dg (Y / 4294967296) (Y % 4294967296) U (V / 4294967296):=⟨by omega,by omega,by omega,by omega,by omega,by omega,ul,by omega⟩
 have hYY:Y / 4294967296 * 4294967296+Y % 4294967296=Y:=by omega
 have c4:decide ((s:Int)<0)=false:=decide_eq_false (by omega)
 have c6:decide (Y / 4294967296=0)=false:=decide_eq_false (by omega)
 refine (digit_loop d1 (fun k q r=>LD1 3 k q r Y s (Y / 4294967296) (Y % 4294967296) U (V / 4294967296) (V % 4294967296)) (fun q=>postD 3 q Y s (Y / 4294967296) (Y % 4294967296) U (V / 4294967296) (V % 4294967296)) (fun k q r=>LD1_eq 3 k q r _ _ _ _ _ _ _) _ _ (iv_start d1)).trans ?_
 have hl1:=left_eq d1
 rw [hYY] at hl1
 obtain ⟨N,hN⟩:∃ N,N=U * 4294967296+V / 4294967296:=⟨_,rfl⟩
 rw [← hN] at hl1
 have hYpos:0<Y:=by omega
 have m0:=Int.emod_nonneg N (show Y≠0 by omega)
 have m1:=Int.emod_lt_of_pos N hYpos
 have eun:un21V (qtV (Y / 4294967296) (Y % 4294967296) U (V / 4294967296)) Y U (V / 4294967296)=N % Y:=by
  unfold un21V
  rw [wrap_left N (qtV (Y / 4294967296) (Y % 4294967296) U (V / 4294967296) * Y) Y (by omega) (by omega) (by omega) U (V / 4294967296) hN]
  exact hl1
 show postD 3 (qtV (Y / 4294967296) (Y % 4294967296) U (V / 4294967296)) Y s (Y / 4294967296) (Y % 4294967296) U (V / 4294967296) (V % 4294967296)=_
 unfold postD
 rw [eun,c6,sel_false]
 have d2:Dg (Y / 4294967296) (Y % 4294967296) (N % Y) (V % 4294967296):=⟨d1.v1l,d1.v1u,d1.v0l,d1.v0u,by omega,by omega,m0,by omega⟩
 obtain ⟨g3,g4⟩:=start_eq (v1:=Y / 4294967296) (U:=N % Y) d1.v1l d1.v1u m0 (by omega)
 rw [g4,g3]
 refine (digit_loop d2 (fun k q r=>LD2 3 k q r Y s (Y / 4294967296) (Y % 4294967296) (V % 4294967296) (qtV (Y / 4294967296) (Y % 4294967296) U (V / 4294967296)) (N % Y)) (fun q=>finD q Y s (V % 4294967296) (qtV (Y / 4294967296) (Y % 4294967296) U (V / 4294967296)) (N % Y)) (fun k q r=>LD2_eq 3 k q r _ _ _ _ _ _ _) _ _ (iv_start d2)).trans ?_
 have hl2:=left_eq d2
 rw [hYY] at hl2
 obtain ⟨N2,hN2⟩:∃ N2,N2=N % Y * 4294967296+V % 4294967296:=⟨_,rfl⟩
 rw [← hN2] at hl2
 have m2:=Int.emod_nonneg N2 (show Y≠0 by omega)
 have m3:=Int.emod_lt_of_pos N2 hYpos
 have q1e:qtV (Y / 4294967296) (Y % 4294967296) U (V / 4294967296)=N / Y:=by unfold qtV;rw [hYY,← hN]
 have q2e:qtV (Y / 4294967296) (Y % 4294967296) (N % Y) (V % 4294967296)=N2 / Y:=by unfold qtV;rw [hYY,← hN2]
 have b1:=qt_bd d1
 have b2:=qt_bd d2
 show finD (qtV (Y / 4294967296) (Y % 4294967296) (N % Y) (V % 4294967296)) Y s (V % 4294967296) (qtV (Y / 4294967296) (Y % 4294967296) U (V / 4294967296)) (N % Y)=_
 unfold finD
 rw [c4,sel_false,wrap_left N2 (qtV (Y / 4294967296) (Y % 4294967296) (N % Y) (V % 4294967296) * Y) Y (by omega) (by omega) (by omega) (N % Y) (V % 4294967296) hN2,hl2]
 rw [q1e] at b1 ⊢
 rw [q2e] at b2 ⊢
 rw [w64_in (N / Y * 4294967296) (by omega) (by omega),w64_in _ (by omega) (by omega)]
 obtain ⟨t1,t2⟩:=two_digits N Y (V % 4294967296) hYpos
 have hT:N * 4294967296+V % 4294967296=U * 18446744073709551616+V:=by rw [hN];omega
 rw [← hN2,hT] at t1 t2
 have hmin:min (s:Int).toNat IntKind.u64.bits=s:=by rw [Int.toNat_natCast];show min s 64=s;omega
 rw [hmin,Int.fdiv_eq_ediv_of_nonneg _ (Int.le_of_lt (Int.pow_pos (by decide))),t1,t2]
theorem div_digits (a b c:Int) (ha:0<a) (hac:a<c) (hb0:0≤b) (hb1:b<18446744073709551616) (hc1:c<18446744073709551616) :
 evFn Try.prog CLz (cnOf 0 TDiv) 3 Try.f55 [.v (.int .u64 a),.v (.int .u64 b),.v (.int .u64 c)] [] 0 K1=some (.tup [.v (.int .u64 (divQ a b c)),.v (.int .u64 (divR a b c))]):=by
 obtain ⟨s,p,Y,U,V,n⟩:=nrm a b c ha hac hb0 hb1 hc1
 have c0:(c == 0)=false:=by simp;omega
 have c1:decide (c≤a)=false:=decide_eq_false (by omega)
 have c2:(a == 0)=false:=by simp;omega
 have c3:u64B c=true:=by rw [u64B_iff];omega
 have c4:decide ((s:Int)<0)=false:=decide_eq_false (by omega)
 have c5:decide (IntKind.u64.wrap (64 - (s:Int))<0)=false:=decide_eq_false (by have:=n.s63;rw [w64_in _ (by omega) (by omega)];omega)
 have c6:decide (Y / 4294967296=0)=false:=decide_eq_false (by have:=n.yl;omega)
 have ey1:y1D c=Y / 4294967296:=by unfold y1D;rw [n.yd,sh32]
 have hyl:=n.yl
 have hyu:=n.yu
 have huy:=n.uy
 have hul:=n.ul
 have ey0:bits .and .u64 Y 4294967295=Y % 4294967296:=and32 _ (by omega) n.yu
 have ev0:bits .and .u64 V 4294967295=V % 4294967296:=and32 _ n.vl n.vu
 obtain ⟨g1,g2⟩:=start_eq (v1:=Y / 4294967296) (U:=U) (by omega) (by omega) hul (by omega)
 rw [div_tree,n.sd,ey1,n.yd,n.ud,n.vd,sh32,ey0,ev0,c0,c1,c2,c3,c4,c5,c6,g2,g1,sel_false,sel_false,sel_false,sel_true,sel_false,sel_false,sel_false,sel_false,sel_false,
  div_loops Y U V s n.s63 n.yl n.yu n.ul n.uy n.vl n.vu,n.whole,← n.ye,← n.pe]
 obtain ⟨r1,r2⟩:=shifted a b c 0 p n.pp (by omega)
 rw [r1,r2]
 rfl
def cDiv:Con:=fun args _=>match args with
 | [.v (.int .u64 a),.v (.int .u64 b),.v (.int .u64 c)]=>.br (divOk a b c) (.ret ⟨.tup [.v (.int .u64 (divQ a b c)),.v (.int .u64 (divR a b c))],[]⟩) .fail
 | _=>.fail
theorem cDiv_ok:∀ B,ConOk Try.prog B 55 cDiv:=con_pure (F:=3) mixed Try.func55 (by kernel_rfl) rfl CLz_ok (fun B' w=>cnOf_ok (pin:=0) (T:=TDiv)) (by
 intro args lo h out ids hr
 unfold cDiv at hr
 split at hr
 · rename_i a b c
   obtain ⟨hb,hr⟩:=br_run hr
   cases hr
   refine ⟨rfl,rfl,?_⟩
   simp only [divOk,Bool.and_eq_true,u64B_iff,decide_eq_true_eq] at hb
   obtain ⟨h1,h2,⟨h3,h4⟩,h5,h6⟩:=hb
   by_cases ha:a=0
   · subst ha
     have c0:(c == 0)=false:=by simp;omega
     have c1:decide (c≤0)=false:=decide_eq_false (by omega)
     have c2:decide (c=0)=false:=decide_eq_false (by omega)
     have e1:IntKind.u64.wrap (b.tdiv c)=divQ 0 b c:=by
      have k1:0≤b / c:=Int.ediv_nonneg h3 (by omega)
      have k2:b / c≤b:=Int.ediv_le_self _ h3
      rw [Int.tdiv_eq_ediv_of_nonneg h3,w64_in _ k1 (by omega)]
      unfold divQ
      rw [Int.zero_mul,Int.zero_add]
     have e2:b.tmod c=divR 0 b c:=by
      rw [Int.tmod_eq_emod_of_nonneg h3]
      unfold divR
      rw [Int.zero_mul,Int.zero_add]
     rw [div_tree,c0,c1,c2,e1,e2]
     rfl
   · exact div_digits a b c (by omega) h2 h3 h4 h6
 · cases hr)
end Go.Proofs.Ytlfkfajodnkkhaa.Ax
