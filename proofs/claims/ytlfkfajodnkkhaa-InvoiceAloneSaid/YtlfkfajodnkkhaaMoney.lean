/- A text of this seat. -/
import Derived.Test.YtlfkfajodnkkhaaX0
import Derived.Outline
import Derived.Deep.RegionHeld3
import Derived.Lib.Hide
import Derived.Laws.Externs
import Derived.ChangeKeysEq
namespace Go.Proofs.Ytlfkfajodnkkhaa.Print
open Go.RowKit Go.Proofs.YtlfkfajodnkkhaaW.PrintWords Go.Proofs.YtlfkfajodnkkhaaW.PrintLast Go.Proofs.YtlfkfajodnkkhaaW.PrintMore
set_option linter.unusedVariables false
set_option linter.unusedSimpArgs false
def hi64 (a:Int):Int:=if a<0 then 18446744073709551615 else 0
def lo64 (a:Int):Int:=IntKind.u64.wrap a
def sumLo (a c k:Int):Int:=(a+c+k) % 18446744073709551616
def sumHi (a c k:Int):Int:=(a+c+k) / 18446744073709551616
def loS (s:Int):Int:=s % 18446744073709551616
def hiS (s:Int):Int:=(s / 18446744073709551616) % 18446744073709551616
def mayB (a:Int):Bool:=decide (-4611686018427387904≤a) && decide (a≤4611686018427387904)
theorem mayB_iff (a:Int):mayB a=true↔-4611686018427387904≤a∧a≤4611686018427387904:=by simp [mayB]
def eq2 (a b c d:Int):Bool:=a == c && b == d
theorem lo64_eq (a:Int):lo64 a=a % 18446744073709551616:=by unfold lo64;rw [IntKind.wrap_u64]
theorem step_lo (s a:Int):sumLo (loS s) (lo64 a) 0=loS (s+a):=by rw [lo64_eq];unfold sumLo loS;omega
theorem carry01 (s a:Int):0≤sumHi (loS s) (lo64 a) 0∧sumHi (loS s) (lo64 a) 0≤1:=by rw [lo64_eq];unfold sumHi loS;omega
theorem step_hi (s a:Int) (h:mayB a=true):sumLo (hiS s) (hi64 a) (sumHi (loS s) (lo64 a) 0)=hiS (s+a):=by
 rw [mayB_iff] at h
 rw [lo64_eq];unfold sumLo sumHi loS hiS hi64;split<;>omega
theorem loS_0 (s:Int):0≤loS s:=by unfold loS;omega
theorem hiS_0 (s:Int):0≤hiS s:=by unfold hiS;omega
theorem lo64_0 (s:Int):0≤lo64 s:=by rw [lo64_eq];omega
theorem hi64_0 (s:Int):0≤hi64 s:=by unfold hi64;split<;>omega
def big:Int:=85070591730234615865843651857942052864
theorem told_eq (s:Int) (h1 : -big≤s) (h2:s≤big):eq2 (loS s) (hiS s) (lo64 (wrap64 (loS s))) (hi64 (wrap64 (loS s)))=decide (wrap64 (loS s)=s):=by
 unfold big at h1 h2
 have hw:wrap64 (loS s)=if loS s<9223372036854775808 then loS s else loS s - 18446744073709551616:=by unfold wrap64 loS;split<;>omega
 rw [hw,lo64_eq,Bool.eq_iff_iff]
 unfold eq2 loS hiS hi64
 simp only [Bool.and_eq_true,beq_iff_eq,decide_eq_true_eq]
 split<;>split<;>omega
def sumV (ok:Bool) (s:Int):Int × Int:=bif ok then (bif mayB s then (s,0) else (0,3)) else (0,2)
def money_Sum.v (l:List Int):Int × Int:=sumV (l.all mayB) l.sum
def money_Sum.f (l:List Int):Option (Int × Int):=some (money_Sum.v l)
theorem take_sum (l:List Int) (k:Nat) (h:k<l.length):(l.take (k+1)).sum=(l.take k).sum+l.getD k 0:=by
 rw [List.take_succ_eq_append_getElem h,List.sum_append]
 simp only [List.sum_cons,List.sum_nil,List.getD_eq_getElem?_getD,List.getElem?_eq_getElem h,Option.getD_some]
 omega
theorem take_all (l:List Int) (k:Nat) (h:k<l.length):(l.take (k+1)).all mayB=((l.take k).all mayB && mayB (l.getD k 0)):=by
 rw [List.take_succ_eq_append_getElem h,List.all_append]
 simp only [List.all_cons,List.all_nil,Bool.and_true,List.getD_eq_getElem?_getD,List.getElem?_eq_getElem h,Option.getD_some]
theorem all_no (l:List Int) (k:Nat) (h:k<l.length) (hm:mayB (l.getD k 0)=false):l.all mayB=false:=by
 rw [← Bool.not_eq_true,List.all_eq_true]
 intro H
 have:=H (l[k]) (List.getElem_mem h)
 simp [List.getD_eq_getElem?_getD,List.getElem?_eq_getElem h] at hm
 simp [hm] at this
theorem sum_bd (l:List Int) (h:l.all mayB=true) : -(4611686018427387904 * (l.length:Int))≤l.sum∧l.sum≤4611686018427387904 * (l.length:Int):=by
 induction l with
 | nil=>simp
 | cons a l ih =>
  simp only [List.all_cons,Bool.and_eq_true] at h
  have:=ih h.2
  have ha:=(mayB_iff a).1 h.1
  simp only [List.sum_cons,List.length_cons]
  omega
set_option maxHeartbeats 400000 in
theorem of_any (a:Int) (w:World) :
 Calls Try.prog 64 #[.int .i64 a] w fun e w'=>e = .returned (.agg #[.int .u64 (lo64 a),.int .u64 (hi64 a)])∧Below w.heap.size w w':=by
 by_cases h:a<0
 · have e1:hi64 a=18446744073709551615:=by unfold hi64;rw [if_pos h]
   have E1:=Lib.hid e1
   clear e1
   go_enter Try.func64,Try.ntmps64
   go_wp2
   refine bodyPost_ret (v:=.agg #[.int .u64 (lo64 a),.int .u64 18446744073709551615]) (by simp [results,Try.results64,go_sem];rfl) rfl ⟨by rw [E1.out],?_⟩
   exact ((Below.refl _ _).alloc (Nat.le_refl _) _).alloc (by simp) _
 · have e1:hi64 a=0:=by unfold hi64;rw [if_neg h]
   have E1:=Lib.hid e1
   clear e1
   go_enter Try.func64,Try.ntmps64
   go_wp2
   refine bodyPost_ret (v:=.agg #[.int .u64 (lo64 a),.int .u64 0]) (by simp [results,Try.results64,go_sem];rfl) rfl ⟨by rw [E1.out],?_⟩
   exact ((Below.refl _ _).alloc (Nat.le_refl _) _).alloc (by simp) _
theorem run_Add64 (x y c:Int) (hx:0≤x) (hy:0≤y) (hc0:0≤c) (hc:c≤1) (w:World) :
 (callFunc 72 #[.int .u64 x,.int .u64 y,.int .u64 c]).run Try.prog w = .ok (.value (.tuple #[.int .u64 (sumLo x y c),.int .u64 (sumHi x y c)])) w:=by
 rw [run_callFunc_extern Try.func72 (by kernel_rfl) (by kernel_rfl) (by kernel_rfl) (e:=add64Entry) (by kernel_rfl),run_add64 x y c hx hy hc0 hc]
 rfl
set_option maxHeartbeats 400000 in
theorem plus_any (a b c d:Int) (w:World) (ha:0≤a) (hb:0≤b) (hc:0≤c) (hd:0≤d) (h0:0≤sumHi a c 0) (h1:sumHi a c 0≤1) :
 Calls Try.prog 63 #[.agg #[.int .u64 a,.int .u64 b],.agg #[.int .u64 c,.int .u64 d]] w fun e w'=>e = .returned (.agg #[.int .u64 (sumLo a c 0),.int .u64 (sumLo b d (sumHi a c 0))])∧Below w.heap.size w w':=by
 have H1:=Lib.hid (fun w=>run_Add64 a c 0 ha hc (Int.le_refl _) (by decide) w)
 have H2:=Lib.hid (fun w=>run_Add64 b d (sumHi a c 0) hb hd h0 h1 w)
 go_enter Try.func63,Try.ntmps63
 go_wp2_with (first|rw [H1.out]|rw [H2.out])
 refine bodyPost_ret (v:=.agg #[.int .u64 (sumLo a c 0),.int .u64 (sumLo b d (sumHi a c 0))]) (by simp [results,Try.results63,go_sem]) rfl ⟨rfl,?_⟩
 exact (((Below.refl _ _).alloc (Nat.le_refl _) _).alloc (by simp) _).alloc (by simp;omega) _
theorem infoU64:∃ i,Try.prog.info? 85=some i:=by
 have h:(Try.prog.info? 85).isSome=true:=by kernel_rfl
 exact Option.isSome_iff_exists.1 h
theorem eqWide (w:World) (a b c d:Int) :
 (Op.equalIn 10000 125 (.agg #[.int .u64 a,.int .u64 b]) (.agg #[.int .u64 c,.int .u64 d])).run Try.prog w = .ok (eq2 a b c d) w:=by
 obtain ⟨i,hi⟩:=infoU64
 rw [show (10000:Nat)=9998+1+1 from rfl,run_equalIn_array w _ _ _ Try.underlying125 hi]
 have hc:Try.prog.cellsOf 85=1:=by kernel_rfl
 rw [hc]
 simp only [List.range,List.range.loop,Op.eqItems]
 go_simp
 by_cases h1:a=c<;>by_cases h2:b=d<;>simp [eq2,h1,h2]
theorem bcell {W w1:World} (hb:Below W.heap.size W w1):(∀ b o,b<W.heap.size→w1.cell? ⟨b,o,none⟩=W.cell? ⟨b,o,none⟩)∧(∀ b o,b<W.heap.size→w1.frozen? ⟨b,o,none⟩=W.frozen? ⟨b,o,none⟩) :=
 ⟨fun b o h=>hb.cell (p:=⟨b,o,none⟩) h,fun b o h=>hb.frozen (p:=⟨b,o,none⟩) h⟩
set_option maxHeartbeats 400000 in
theorem may_any (a:Int) (w:World) :
 Calls Try.prog 35 #[.int .i64 a] w fun e w'=>e = .returned (.bool (mayB a))∧w=w':=by
 by_cases h1 : -4611686018427387904≤a
 · have e1:mayB a=decide (a≤4611686018427387904):=by simp [mayB,h1]
   have E1:=Lib.hid e1
   clear e1
   have h1':decide (-4611686018427387904≤a)=true:=decide_eq_true h1
   clear h1
   go_enter Try.func35,Try.ntmps35
   go_wp2
   go_ret
   exact ⟨by rw [E1.out];rfl,rfl⟩
 · have e1:mayB a=false:=by simp [mayB,h1]
   have E1:=Lib.hid e1
   clear e1
   have h1':decide (-4611686018427387904≤a)=false:=decide_eq_false h1
   clear h1
   go_enter Try.func35,Try.ntmps35
   go_wp2
   go_ret
   exact ⟨by rw [E1.out];rfl,rfl⟩
attribute [local go_sem high] eqWide
theorem told_bel {W w':World} {o:Obj} (hb:Below (W.alloc o).drew.heap.size (W.alloc o).drew w'):Below W.heap.size W w' :=
 below_step (below_drew (below_alloc (Below.refl _ _) o)) hb
set_option maxHeartbeats 400000 in
theorem told_no1 (a b:Int) (w:World) (h:eq2 a b (lo64 (wrap64 a)) (hi64 (wrap64 a))=false) :
 Calls Try.prog 65 #[.agg #[.int .u64 a,.int .u64 b]] w fun e w'=>e = .returned (.tuple #[.int .i64 0,.int .i64 3])∧Below w.heap.size w w':=by
 go_enter Try.func65,Try.ntmps65
 go_wp2_with fail
 go_region_with (first|(go_at_call 64;refine (of_any _ _).mono ?_;rintro e w' ⟨rfl,hb⟩;obtain ⟨hc,hf⟩:=bcell hb))
 all_goals
  go_wp2_with fail
  go_ret2
  exact ⟨rfl,told_bel hb⟩
set_option maxHeartbeats 400000 in
theorem told_no2 (a b:Int) (w:World) (h:eq2 a b (lo64 (wrap64 a)) (hi64 (wrap64 a))=true) (hm:mayB (wrap64 a)=false) :
 Calls Try.prog 65 #[.agg #[.int .u64 a,.int .u64 b]] w fun e w'=>e = .returned (.tuple #[.int .i64 0,.int .i64 3])∧Below w.heap.size w w':=by
 go_enter Try.func65,Try.ntmps65
 go_wp2_with fail
 go_region_with (first|(go_at_call 64;refine (of_any _ _).mono ?_;rintro e w' ⟨rfl,hb⟩;obtain ⟨hc,hf⟩:=bcell hb))
 all_goals
  go_wp2_with (go_at_call 35;refine (may_any _ _).mono ?_;rintro e w' ⟨rfl,rfl⟩)
  go_ret2
  exact ⟨rfl,told_bel hb⟩
set_option maxHeartbeats 400000 in
theorem told_yes (a b:Int) (w:World) (h:eq2 a b (lo64 (wrap64 a)) (hi64 (wrap64 a))=true) (hm:mayB (wrap64 a)=true) :
 Calls Try.prog 65 #[.agg #[.int .u64 a,.int .u64 b]] w fun e w'=>e = .returned (.tuple #[.int .i64 (wrap64 a),.int .i64 0])∧Below w.heap.size w w':=by
 go_enter Try.func65,Try.ntmps65
 go_wp2_with fail
 go_region_with (first|(go_at_call 64;refine (of_any _ _).mono ?_;rintro e w' ⟨rfl,hb⟩;obtain ⟨hc,hf⟩:=bcell hb))
 all_goals
  go_wp2_with (go_at_call 35;refine (may_any _ _).mono ?_;rintro e w' ⟨rfl,rfl⟩)
  go_ret2
  exact ⟨rfl,told_bel hb⟩
def told.v (s:Int):Int × Int:=if mayB s=true then (s,0) else (0,3)
theorem told_any (s:Int) (w:World) (h1 : -big≤s) (h2:s≤big) :
 Calls Try.prog 65 #[.agg #[.int .u64 (loS s),.int .u64 (hiS s)]] w fun e w'=>e = .returned (.tuple #[.int .i64 (told.v s).1,.int .i64 (told.v s).2])∧Below w.heap.size w w':=by
 have e:=told_eq s h1 h2
 by_cases h:wrap64 (loS s)=s
 · rw [decide_eq_true h] at e
   cases hm:mayB s with
   | true=>have:=told_yes (loS s) (hiS s) w e (by rw [h];exact hm);rw [h] at this;simp only [told.v,hm,if_true];exact this
   | false=>have:=told_no2 (loS s) (hiS s) w e (by rw [h];exact hm);simp only [told.v,hm,Bool.false_eq_true,if_false];exact this
 · rw [decide_eq_false h] at e
   have hm:mayB s=false:=by
    rw [← Bool.not_eq_true,mayB_iff]
    intro hc
    apply h
    unfold wrap64 loS
    omega
   simp only [told.v,hm,Bool.false_eq_true,if_false]
   exact told_no1 (loS s) (hiS s) w e
structure SumAt (w wr:World) (s:Int):Prop where
 c0:wr.cell? ⟨w.heap.size,0,none⟩=some (.int .u64 (loS s))
 c1:wr.cell? ⟨w.heap.size,1,none⟩=some (.int .u64 (hiS s))
 f0:wr.frozen? ⟨w.heap.size,0,none⟩=false
 f1:wr.frozen? ⟨w.heap.size,1,none⟩=false
 sz:w.heap.size<wr.heap.size
 bel:Below w.heap.size w wr
theorem SumAt.facts {w wr:World} {s:Int} (h:SumAt w wr s):wr.cell? ⟨w.heap.size,0,none⟩=some (.int .u64 (loS s))∧wr.cell? ⟨w.heap.size,1,none⟩=some (.int .u64 (hiS s))∧wr.frozen? ⟨w.heap.size,0,none⟩=false∧wr.frozen? ⟨w.heap.size,1,none⟩=false∧w.heap.size<wr.heap.size:=⟨h.c0,h.c1,h.f0,h.f1,h.sz⟩
theorem SumAt.next {w wr w1:World} {s:Int} (h:SumAt w wr s) (hb:Below wr.heap.size wr w1):SumAt w w1 s:=by
 obtain ⟨hc,hf⟩:=bcell hb
 exact ⟨(hc _ _ h.sz).trans h.c0,(hc _ _ h.sz).trans h.c1,(hf _ _ h.sz).trans h.f0,(hf _ _ h.sz).trans h.f1,Nat.lt_of_lt_of_le h.sz hb.size,below_step h.bel hb⟩
theorem SumAt.drew {w wr:World} {s:Int} (h:SumAt w wr s):SumAt w wr.drew s:=⟨h.c0,h.c1,h.f0,h.f1,h.sz,below_drew h.bel⟩
theorem first_next {w wr w1:World} {s:Int} (h:SumAt w wr s) (hb:Below wr.drew.heap.size wr.drew w1):SumAt w w1 s:=h.drew.next hb
theorem SumAt.put {w wr:World} {s a:Int} (h:SumAt w wr s) (hm:mayB a=true) :
 SumAt w ((wr.setCell ⟨w.heap.size,0,none⟩ (.int .u64 (sumLo (loS s) (lo64 a) 0))).setCell ⟨w.heap.size,1,none⟩ (.int .u64 (sumLo (hiS s) (hi64 a) (sumHi (loS s) (lo64 a) 0)))) (s+a):=by
 rw [step_lo,step_hi s a hm]
 have hb:Below w.heap.size w ((wr.setCell ⟨w.heap.size,0,none⟩ (.int .u64 (loS (s+a)))).setCell ⟨w.heap.size,1,none⟩ (.int .u64 (hiS (s+a)))):=(h.bel.setCell (Nat.le_refl _) _).setCell (Nat.le_refl _) _
 obtain ⟨k0,k1,k2,k3,k4⟩:=h.facts
 refine ⟨?_,?_,?_,?_,?_,hb⟩<;>go_simp
theorem sumAt_start (w:World):SumAt w (w.alloc (Obj.cells #[.int .u64 0,.int .u64 0] 125)) 0:=by
 refine ⟨?_,?_,?_,?_,by simp,(Below.refl _ _).alloc (Nat.le_refl _) _⟩<;>go_simp<;>rfl
set_option maxHeartbeats 1000000 in
theorem sum_any (A0:Option Addr) (c0:Nat) (l0:List Int) (w:World) (hr0:Kd.C (Kd.int .i64) w A0 l0.length l0) (hc0:l0.length≤c0) (hb0:l0.length≤9223372036854775807) :
 Calls Try.prog 51 #[.slice A0 l0.length c0] w fun e w'=>e = .returned (.tuple #[.int .i64 (money_Sum.v l0).1,.int .i64 (money_Sum.v l0).2])∧Below w.heap.size w w':=by
 have HR0:=Aside0.mk hr0
 clear hr0
 go_enter Try.func51,Try.ntmps51
 go_wp2
 go_loopw [9] (fun i wr=>∃ k:Nat,k≤l0.length∧i = .int .i64 k∧(l0.take k).all mayB=true∧SumAt w wr (l0.take k).sum) (fun i _=>l0.length - (intOf i).toNat)
 case atStart =>
  exact ⟨0,Nat.zero_le _,rfl,rfl,sumAt_start w⟩
 case round =>
  obtain ⟨k,hk,rfl,hall,hat⟩:=hrel
  have Hall:=Aside0.mk hall
  clear hall
  by_cases hlt:k<l0.length
  · obtain ⟨hc0',hc1',hf0,hf1,hsz⟩:=hat.facts
    obtain ⟨s,hs⟩:∃ s,s=(l0.take k).sum:=⟨_,rfl⟩
    rw [← hs] at hat hc0' hc1'
    have Hs:=Aside0.mk hs
    clear hs
    have p1:0≤(k:Int):=by omega
    have q1:(k:Int)<(l0.length:Int):=by omega
    obtain ⟨ad,e1,hx⟩:=Kd.at_int HR0.out k p1 q1
    cases e1
    replace hx:=(hat.bel.cell (World.block_lt_of_cell? w _ hx)).trans hx
    obtain ⟨a,ha⟩:∃ a,a=rd l0 (k:Int):=⟨_,rfl⟩
    rw [← ha,Int.toNat_natCast] at hx
    have Ha:=Aside0.mk ha
    have Hat:=Aside0.mk hat
    clear ha hat
    cases hm:mayB a with
    | false =>
     go_wp2_with (go_at_call 35;refine (may_any _ _).mono ?_;rintro e w' ⟨rfl,rfl⟩)
     go_ret2
     have hg:mayB (l0.getD k 0)=false:=by rw [← hm,Ha.out];unfold rd;rw [Int.toNat_natCast]
     have hn:=all_no l0 k hlt hg
     exact ⟨by unfold money_Sum.v;rw [hn];rfl,Hat.out.bel⟩
    | true =>
     go_wp2_with (go_at_call 35;refine (may_any _ _).mono ?_;rintro e w' ⟨rfl,rfl⟩)
     go_region_with (first|(go_at_call 64;refine (of_any _ _).mono ?_;rintro e w1 ⟨rfl,hb1⟩;have Hat1:=Aside0.mk (first_next Hat.out hb1);have hk1:=Hat1.out.c0;have hk2:=Hat1.out.c1)|(go_at_call 63;refine (plus_any _ _ _ _ _ (loS_0 s) (hiS_0 s) (lo64_0 a) (hi64_0 a) (carry01 s a).1 (carry01 s a).2).mono ?_;rintro e w2 ⟨rfl,hb2⟩;have Hat2:=Aside0.mk (Hat1.out.next hb2);obtain ⟨hm1,hm2,hm3,hm4,hm5⟩:=Hat2.out.facts))
     all_goals
      go_wp2_with fail
      go_roundw
      case rel =>
       have hn:=take_sum l0 k hlt
       have hl:=take_all l0 k hlt
       have hg:l0.getD k 0=a:=by rw [Ha.out];unfold rd;rw [Int.toNat_natCast]
       exact ⟨k+1,by omega,by go_num,by rw [hl,Hall.out,hg,hm];rfl,by rw [hn,hg,← Hs.out];exact Hat2.out.put hm⟩
      case measure=>simp [intOf];omega
  · obtain ⟨hc0',hc1',hf0,hf1,hsz⟩:=hat.facts
    have hlen:k=l0.length:=by omega
    have Hlen:=Aside0.mk hlen
    clear hlen
    have hk0:¬ ((k:Int)<(l0.length:Int)):=by omega
    have Hat:=Aside0.mk hat
    clear hat
    have hbd : -big≤(l0.take k).sum∧(l0.take k).sum≤big:=by
     have:=sum_bd _ Hall.out
     have hle:(l0.take k).length≤l0.length:=by rw [List.length_take];omega
     unfold big
     omega
    go_wp2_with (go_at_call 65;refine (told_any _ _ hbd.1 hbd.2).mono ?_;rintro e w' ⟨rfl,hb⟩)
    go_ret2
    have ht:l0.take k=l0:=List.take_of_length_le (by rw [Hlen.out];exact Nat.le_refl _)
    have hv:told.v (l0.take k).sum=money_Sum.v l0:=by
     have ha:=Hall.out
     rw [ht] at ha ⊢
     unfold money_Sum.v told.v sumV
     rw [ha]
     cases mayB l0.sum<;>rfl
    rw [hv]
    exact ⟨rfl,below_step Hat.out.bel hb⟩
theorem money_Sum.calls (A0:Option Addr) (c0:Nat) (l0:List Int) (r1:Int) (r2:Int) (w:World) (hr0:Kd.C (Kd.int .i64) w A0 l0.length l0) (hc0:l0.length≤c0) (h:money_Sum.f l0=some (r1,r2)) :
 Calls Try.prog 51 #[.slice A0 l0.length c0] w fun e w'=>e = .returned (.tuple #[.int .i64 r1,.int .i64 r2])∧Below w.heap.size w w':=by
 have hv:money_Sum.v l0=(r1,r2):=Option.some.inj h
 have:=sum_any A0 c0 l0 w hr0 hc0 hr0.2.1
 rw [hv] at this
 exact this
end Go.Proofs.Ytlfkfajodnkkhaa.Print
