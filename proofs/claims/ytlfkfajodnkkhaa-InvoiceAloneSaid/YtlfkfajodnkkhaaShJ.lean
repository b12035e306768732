/- share.parts: what it hands to a loop's body. -/
import Derived.RangeFuncNested
import Derived.RangeFuncBound
import Derived.RangeFuncCalls
import Derived.RangeFuncLeaves
import Derived.Shelf.Abstract
import Derived.Shelf.RegionOpen
import Derived.WalkKit
import Derived.OwnWalkIn
import Derived.TacticsInMore
import Derived.LoopNIn
import Derived.LoopIn
import Derived.Lib.Hide
import Derived.Maps.OwnIn
import Derived.Test.YtlfkfajodnkkhaaProg
import Derived.Test.YtlfkfajodnkkhaaBitsD
import Derived.Test.YtlfkfajodnkkhaaShI
namespace Go.Proofs.Ytlfkfajodnkkhaa.ShP
open Go Go.RowKit Go.Shelf Go.Proofs.YtlfkfajodnkkhaaW.PrintWords Go.Proofs.YtlfkfajodnkkhaaW.PrintLast Go.Proofs.YtlfkfajodnkkhaaW.PrintMore Go.Proofs.Ytlfkfajodnkkhaa.Print
set_option linter.unusedVariables false
set_option linter.unusedSimpArgs false
attribute [local go_sem] Oper.semAt_some
abbrev HP:=Int × Int × Int
def partOf (size all:Int) (i:Nat) (x:Int):HP:=((i:Int),size * x / all,size * x % all)
def upF (n k:Nat):List (Fin n):=(List.finRange n).take k
theorem upF_succ {n k:Nat} (h:k<n):upF n (k+1)=upF n k ++ [⟨k,h⟩]:=by
 unfold upF
 rw [List.take_succ_eq_append_getElem (by simpa using h)]
 simp
theorem upF_length {n k:Nat} (h:k≤n):(upF n k).length=k:=by simp [upF,h]
def encQ (x:HP):Array Value:=#[.agg #[.int .i64 x.1,.int .i64 x.2.1,.int .u64 x.2.2]]
theorem mul_call (a b:Int) (w:World) (ha:0≤a∧a<18446744073709551616) (hb:0≤b∧b<18446744073709551616) :
 Calls Try.prog 54 #[.int .u64 a,.int .u64 b] w fun e w'=>e = .returned (.tuple #[.int .u64 (a * b / 18446744073709551616),.int .u64 (a * b % 18446744073709551616)])∧Below w.heap.size w w':=by
 have:=Ax.calls_of_con Try.func54 (by kernel_rfl) rfl Ax.cMul_ok (args:=[.v (.int .u64 a),.v (.int .u64 b)]) (out:=⟨.tup [.v (.int .u64 (Ax.mulHi a b)),.v (.int .u64 (Ax.mulLo a b))],[]⟩) (ids:=[]) (by
  have h1:(Ax.u64B a && Ax.u64B b)=true:=by rw [Bool.and_eq_true];exact ⟨(Ax.u64B_iff a).2 ha,(Ax.u64B_iff b).2 hb⟩
  first
   | rfl
   | (simp only [Ax.cMul,Ax.Rd.run,h1])) rfl rfl (fun _=>⟨0,0,0,0,true,none⟩) w
 exact this
theorem div_call (a b c:Int) (w:World) (ha:0≤a) (hc:a<c) (hb:0≤b∧b<18446744073709551616) (hc2:c<18446744073709551616) :
 Calls Try.prog 55 #[.int .u64 a,.int .u64 b,.int .u64 c] w fun e w'=>e = .returned (.tuple #[.int .u64 ((a * 18446744073709551616+b) / c),.int .u64 ((a * 18446744073709551616+b) % c)])∧Below w.heap.size w w':=by
 have:=Ax.calls_of_con Try.func55 (by kernel_rfl) rfl Ax.cDiv_ok (args:=[.v (.int .u64 a),.v (.int .u64 b),.v (.int .u64 c)]) (out:=⟨.tup [.v (.int .u64 (Ax.divQ a b c)),.v (.int .u64 (Ax.divR a b c))],[]⟩) (ids:=[]) (by
  have h1:Ax.divOk a b c=true:=by
   simp only [Ax.divOk,Bool.and_eq_true,Ax.u64B_iff,decide_eq_true_eq]
   exact ⟨ha,hc,hb,by omega,hc2⟩
  simp only [Ax.cDiv,Ax.Rd.run,h1]) rfl rfl (fun _=>⟨0,0,0,0,true,none⟩) w
 exact this
def KpS (n₀ bs ba:Nat) (A B:World):Prop:=Below n₀ A B∧B.heap[bs]? = A.heap[bs]?∧B.heap[ba]? = A.heap[ba]?
theorem KpS.trans {n₀ bs ba:Nat} {A B C:World} (h:KpS n₀ bs ba A B) (k:KpS n₀ bs ba B C):KpS n₀ bs ba A C:=⟨h.1.trans k.1,k.2.1.trans h.2.1,k.2.2.trans h.2.2⟩
theorem KpS.of {n₀ bs ba:Nat} {A B:World} (h:Below A.heap.size A B) (hn:n₀≤A.heap.size) (h1:bs<A.heap.size) (h2:ba<A.heap.size):KpS n₀ bs ba A B:=⟨h.mono hn,h.block bs h1,h.block ba h2⟩
theorem grown_of {A B:World} (h:Below A.heap.size A B):A.grownBy B none:=⟨h.os,h.tape,h.output,h.size,fun k hk _=>h.block k hk⟩
theorem cell_eq {A B:World} {b j:Nat} (h:B.heap[b]? = A.heap[b]?):B.cell? ⟨b,j,none⟩=A.cell? ⟨b,j,none⟩:=World.cell?_of_block (w:=A) h
theorem u64_id {x:Int} (h0:0≤x) (h1:x<18446744073709551616):IntKind.u64.wrap x=x:=by rw [Ax.wrapU64];omega
theorem i64_id {x:Int} (h0 : -9223372036854775808≤x) (h1:x<9223372036854775808):IntKind.i64.wrap x=x:=by rw [IntKind.wrap_i64];omega
set_option maxRecDepth 100000 in
set_option maxHeartbeats 4000000 in
theorem parts_line (n l bw bs ba n₀ ab ao len cap:Nat) (wf:Nat→Int) (size all:Int) (hs:0≤size∧size≤4611686018427387904) (hall:0<all∧all≤1125899906842624) (hw:∀ j,0≤wf j∧wf j≤all)
 (hn:1≤n) (hb:ab<n₀) (J Jx:List (Fin len)→World→Prop) (hreach:len≤1000000000) (hcap:len≤cap)
 (W:World) (hn0:n₀≤W.heap.size) (hbs:bs<W.heap.size) (hba:ba<W.heap.size) (hJ:AbidesFrom W.heap.size J)
 (hY:∀ pre (x:Fin len) W,J pre W→pre.length<len→YieldAt Fence.wide (n - 1) Try.prog l (encQ (partOf size all x (wf x))) W fun e W' =>
  (e = .returned (.bool true)∧J (pre ++ [x]) W'∧KpS n₀ bs ba W W')∨(e = .returned (.bool false)∧Jx (pre ++ [x]) W'))
 (hBw:W.cell? ⟨bw,0,none⟩=some (.slice (some ⟨ab,ao,none⟩) len cap)) (hBs:W.cell? ⟨bs,0,none⟩=some (.int .u64 size)) (hBa:W.cell? ⟨ba,0,none⟩=some (.int .i64 all))
 (hc:∀ j,j<len→W.cell? ⟨ab,ao+j,none⟩=some (.int .i64 (wf j))) (h0:J [] W) :
 CallsIn Fence.wide n Try.prog 53 #[.func (.yield l) #[] #[],.pointer (some ⟨bw,0,none⟩),.pointer (some ⟨bs,0,none⟩),.pointer (some ⟨ba,0,none⟩)] W fun e W'=>(∃ v,e = .returned v)∧
  ((∃ ys,ys=upF len len∧J ys W')∨(∃ pre,(∃ k,k≤len∧pre=upF len k)∧Jx pre W')):=by
 refine callsIn_of_wp Try.func53 rfl trivial ?_ rfl
 simp only [Try.ntmps53,List.size_toArray,List.length_cons,List.length_nil,Nat.reduceAdd,Nat.reduceSub,Array.replicate_succ,Array.replicate_zero,List.push_toArray,List.append_toArray,List.nil_append,List.cons_append]
 gi_wp2
 gi_loopw [13] (fun i wr=>∃ k:Nat,k≤len∧i = .int .i64 k∧J (upF len k) wr∧KpS n₀ bs ba W wr∧W.heap.size≤wr.heap.size)
  (fun i _=>len - (intOf i).toNat)
 case atStart=>exact ⟨0,Nat.zero_le _,rfl,h0,⟨Below.refl _ _,rfl,rfl⟩,Nat.le_refl _⟩
 case round =>
  obtain ⟨k,hk,rfl,hJs,hnx,hsz⟩:=hrel
  by_cases hlt:k<len
  · have c0:=(hnx.1.cell (p:=⟨ab,ao+k,none⟩) hb).trans (hc k hlt)
    have c1:=(cell_eq hnx.2.1).trans hBs
    have c2:=(cell_eq hnx.2.2).trans hBa
    obtain ⟨x,hx⟩:∃ x,wf k=x:=⟨_,rfl⟩
    have hwx:=hw k
    rw [hx] at hwx c0
    have hx64:IntKind.u64.wrap x=x:=u64_id hwx.1 (by omega)
    have hall64:IntKind.u64.wrap all=all:=u64_id (by omega) (by omega)
    have hsx:0≤size * x:=Int.mul_nonneg hs.1 hwx.1
    have hsx2:size * x≤size * all:=Int.mul_le_mul_of_nonneg_left hwx.2 hs.1
    have hsa:size * all≤4611686018427387904 * all:=Int.mul_le_mul_of_nonneg_right hs.2 (by omega)
    have hhi:size * x / 18446744073709551616<all:=by
     refine Int.ediv_lt_of_lt_mul (by decide) ?_
     omega
    have hhi0:0≤size * x / 18446744073709551616:=Int.ediv_nonneg hsx (by decide)
    have hjoin:size * x / 18446744073709551616 * 18446744073709551616+size * x % 18446744073709551616=size * x:=Int.ediv_mul_add_emod (size * x) 18446744073709551616
    have hq0:0≤size * x / all:=Int.ediv_nonneg hsx (by omega)
    have hq1:size * x / all≤4611686018427387904:=by
     have:size * x / all≤4611686018427387904 * all / all:=Int.ediv_le_ediv hall.1 (by omega)
     rwa [Int.mul_ediv_cancel _ (by omega)] at this
    have hbaw:ba<wr.heap.size:=by omega
    have hq64:IntKind.i64.wrap (size * x / all)=size * x / all:=i64_id (by omega) (by omega)
    gi_wp2_with (first
     | (refine ⟨trivial,?_⟩;gi_at_call 54;refine (callsIn_wide.2 (mul_call size x _ ⟨hs.1,by omega⟩ ⟨hwx.1,by omega⟩)).mono ?_;rintro e w1 ⟨rfl,hb1⟩;have d2:=(hb1.cell (p:=⟨ba,0,none⟩) hbaw).trans c2)
     | (refine ⟨trivial,?_⟩;gi_at_call 55;refine (callsIn_wide.2 (div_call (size * x / 18446744073709551616) (size * x % 18446744073709551616) all _ hhi0 hhi ⟨Int.emod_nonneg _ (by decide),Int.emod_lt_of_pos _ (by decide)⟩ (by omega))).mono ?_;rw [hjoin];rintro e w2 ⟨rfl,hb2⟩;have hb12:Below wr.heap.size wr w2:=hb1.trans (hb2.mono hb1.size);obtain ⟨fn,tmps,assign,body,hy,hR⟩:=hY _ ⟨k,hlt⟩ w2 (hJ _ wr w2 none hJs (grown_of hb12) (fun r e=>by cases e)) (by rw [upF_length hk];exact hlt);unfold encQ partOf at hy;dsimp only at hy;rw [hx] at hy))
    have hK2:KpS n₀ bs ba wr w2:=.of hb12 (Nat.le_trans hn0 hsz) (by omega) hbaw
    refine hR.mono ?_
    rintro e W3 (⟨rfl,hJ3,hk3⟩|⟨rfl,hJx3⟩)
    · gi_wp2
      go_roundw
      case rel=>exact ⟨k+1,by omega,by simp,by rw [upF_succ hlt];exact hJ3,hnx.trans (hK2.trans hk3),Nat.le_trans hsz (Nat.le_trans hb12.size hk3.1.size)⟩
      case measure=>simp [intOf];omega
    · gi_wp2
      refine bodyPost_ret (results_none rfl _ _ _) rfl ?_
      exact ⟨⟨_,rfl⟩,.inr ⟨_,⟨k+1,by omega,(upF_succ hlt).symm⟩,hJx3⟩⟩
  · obtain rfl:k=len:=by omega
    gi_wp2
    go_end0
    exact ⟨⟨_,rfl⟩,.inl ⟨_,rfl,hJs⟩⟩
theorem parts_stops (n:Nat) (hn:1≤n) (bw bs ba n₀ ab ao len cap:Nat) (wf:Nat→Int) (size all:Int) (hs:0≤size∧size≤4611686018427387904) (hall:0<all∧all≤1125899906842624) (hw:∀ j,0≤wf j∧wf j≤all)
 (hb:ab<n₀) (hreach:len≤1000000000) (hcap:len≤cap) (w:World) (hn0:n₀≤w.heap.size) (hbw:bw<w.heap.size) (hbs:bs<w.heap.size) (hba:ba<w.heap.size)
 (hBw:w.cell? ⟨bw,0,none⟩=some (.slice (some ⟨ab,ao,none⟩) len cap)) (hBs:w.cell? ⟨bs,0,none⟩=some (.int .u64 size)) (hBa:w.cell? ⟨ba,0,none⟩=some (.int .i64 all))
 (hc:∀ j,j<len→w.cell? ⟨ab,ao+j,none⟩=some (.int .i64 (wf j))) :
 SeqStopsK Fence.wide n Try.prog 53 #[.pointer (some ⟨bw,0,none⟩),.pointer (some ⟨bs,0,none⟩),.pointer (some ⟨ba,0,none⟩)] (fun x:Fin len=>encQ (partOf size all x (wf x))) (KpS n₀ bs ba) (fun ys=>ys=upF len len) (fun pre=>∃ k,k≤len∧pre=upF len k) len w:=fun l J Jx W hW hJ _ hY h0=>by
 refine (parts_line n l bw bs ba n₀ ab ao len cap wf size all hs hall hw hn hb J Jx hreach hcap W (Nat.le_trans hn0 hW.size) (Nat.lt_of_lt_of_le hbs hW.size) (Nat.lt_of_lt_of_le hba hW.size) hJ hY ((hW.cell (p:=⟨bw,0,none⟩) hbw).trans hBw) ((hW.cell (p:=⟨bs,0,none⟩) hbs).trans hBs) ((hW.cell (p:=⟨ba,0,none⟩) hba).trans hBa) (fun j hj=>(hW.cell (p:=⟨ab,ao+j,none⟩) (Nat.lt_of_lt_of_le hb hn0)).trans (hc j hj)) h0).mono ?_
 rintro e W' ⟨he,⟨ys,rfl,hj⟩|⟨pre,⟨k,hk,rfl⟩,hj⟩⟩
 · exact ⟨he,.inl ⟨_,rfl,hj⟩⟩
 · exact ⟨he,.inr ⟨_,⟨k,hk,rfl⟩,hj⟩⟩
end Go.Proofs.Ytlfkfajodnkkhaa.ShP
