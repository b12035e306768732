/- A text of this seat. -/
import Derived.Test.YtlfkfajodnkkhaaX0
import Derived.Test.YtlfkfajodnkkhaaX2
namespace Go.Proofs.Ytlfkfajodnkkhaa.Print
open Go.RowKit Go.Proofs.YtlfkfajodnkkhaaW.PrintWords Go.Proofs.YtlfkfajodnkkhaaW.PrintLast Go.Proofs.YtlfkfajodnkkhaaW.PrintMore
attribute [local go_sem] max2_int min2_int max_two min_two max_three min_three max_four min_four   -- for this text's walks alone
set_option linter.unusedVariables false
set_option linter.unusedSimpArgs false
def octroiref01_Add.f (k:Nat) (a0_0:Bool) (l0_1:List Int) (a1_0:Bool) (l1_1:List Int):Option (Bool × List Int):=if (a0_0 == a1_0)=true then ((octroiref01_plus.f k l0_1 l1_1).bind fun t164=>(some (a0_0,t164))) else ((octroiref01_cmp.f k l0_1 l1_1).bind fun t167=>(if t167=0 then (some (false,([]:List Int))) else (if t167>0 then ((octroiref01_minus.f k l0_1 l1_1).bind fun t168=>(some (a0_0,t168))) else ((octroiref01_minus.f k l1_1 l0_1).bind fun t171=>(some (a1_0,t171))))))
def octroiref01_Add.T2:Bool × List (List Nat × List Nat):=(true,[([],[]),([0],[0]),([],[]),([2],[2]),([],[]),([4],[4]),([3,5],[3,5]),([1,6],[1,6]),([7,6,0,1,2,3,4,5,6,7],[7])])
def octroiref01_Add.B2:List Nat:=[0,1,0,4,0,16,60,127,255]
theorem octroiref01_Add.tab2:rtab .any (opsOf Try.f26 2)=octroiref01_Add.T2:=by kernel_rfl
theorem octroiref01_Add.bits2:waitsOk octroiref01_Add.T2.2 octroiref01_Add.B2=true:=by kernel_rfl
def octroiref01_Add.T7:Bool × List (List Nat × List Nat):=(true,[([],[]),([0],[0]),([],[]),([2],[2]),([],[]),([4],[4]),([3,5],[3,5]),([1,6],[1,6]),([7,6,0,1,2,3,4,5,6,7],[7])])
def octroiref01_Add.B7:List Nat:=[0,1,0,4,0,16,60,127,255]
theorem octroiref01_Add.tab7:rtab .any (opsOf Try.f26 7)=octroiref01_Add.T7:=by kernel_rfl
theorem octroiref01_Add.bits7:waitsOk octroiref01_Add.T7.2 octroiref01_Add.B7=true:=by kernel_rfl
def octroiref01_Add.T8:Bool × List (List Nat × List Nat):=(true,[([],[]),([0],[0]),([],[]),([2],[2]),([],[]),([4],[4]),([3,5],[3,5]),([1,6],[1,6]),([7,6,0,1,2,3,4,5,6,7],[7])])
def octroiref01_Add.B8:List Nat:=[0,1,0,4,0,16,60,127,255]
theorem octroiref01_Add.tab8:rtab .any (opsOf Try.f26 8)=octroiref01_Add.T8:=by kernel_rfl
theorem octroiref01_Add.bits8:waitsOk octroiref01_Add.T8.2 octroiref01_Add.B8=true:=by kernel_rfl
set_option maxHeartbeats 8000000 in
set_option maxRecDepth 100000 in
theorem octroiref01_Add.calls (k:Nat) (a0_0:Bool) (A0_1:Option Addr) (c0_1:Nat) (l0_1:List Int) (a1_0:Bool) (A1_1:Option Addr) (c1_1:Nat) (l1_1:List Int) (r1:Bool) (r2:List Int) (w:World) (hr0_1:Kd.C (Kd.int .i64) w A0_1 l0_1.length l0_1) (hc0_1:l0_1.length≤c0_1) (hr1_1:Kd.C (Kd.int .i64) w A1_1 l1_1.length l1_1) (hc1_1:l1_1.length≤c1_1) (h:octroiref01_Add.f k a0_0 l0_1 a1_0 l1_1=some (r1,r2)) :
 Calls Try.prog 26 #[.agg #[.bool a0_0,.slice A0_1 l0_1.length c0_1],.agg #[.bool a1_0,.slice A1_1 l1_1.length c1_1]] w fun e w'=>∃ v1_:Value,e = .returned (.agg #[.bool r1,v1_])∧Kd.R (Kd.int .i64) 3 w' w.heap.size (fun _=>True) v1_ r2∧Below w.heap.size w w':=by
 have hu73:=Try.underlying73
 have HR0_1:=Aside0.mk hr0_1
 have HC0_1:=Aside0.mk hc0_1
 clear hr0_1 hc0_1
 have HR1_1:=Aside0.mk hr1_1
 have HC1_1:=Aside0.mk hc1_1
 clear hr1_1 hc1_1
 have HB:=Aside0.mk (Below.refl w.heap.size w)
 have H:(if (a0_0 == a1_0)=true then ((octroiref01_plus.f k l0_1 l1_1).bind fun t164=>(some (a0_0,t164))) else ((octroiref01_cmp.f k l0_1 l1_1).bind fun t167=>(if t167=0 then (some (false,([]:List Int))) else (if t167>0 then ((octroiref01_minus.f k l0_1 l1_1).bind fun t168=>(some (a0_0,t168))) else ((octroiref01_minus.f k l1_1 l0_1).bind fun t171=>(some (a1_0,t171)))))))=some (r1,r2):=h
 clear h
 by_cases c3:(a0_0 == a1_0)=true
 · rw [if_pos c3] at H
   have c3b0:(a0_0 == a1_0)=true:=c3
   (try (have c3b1:decide (a0_0=a1_0)=true:=by simpa using c3))
   (try (have c3b2:(a0_0 == a1_0)=true:=by simpa using c3))
   clear c3
   replace H:=Option.bind_eq_some_iff.mp H
   obtain ⟨t164,A40,H⟩:=H
   replace H:(some (a0_0,t164))=some (r1,r2):=H
   have A4:=Aside0.mk A40
   clear A40
   simp only [Option.some.injEq,Prod.mk.injEq] at H
   obtain ⟨rfl,rfl⟩:=H
   go_enter Try.func26,Try.ntmps26
   try go_wp2_with (first|((with_reducible refine gate_dst (N:=2) rfl ?_);refine box_event ?hg (N:=2) ?hd (cs:=#[.bool a0_0,.slice A0_1 l0_1.length c0_1]) (t:=73) ?hr ?_;(case hd=>rfl);(case hg=>rfl);(case hr=>first|(go_simp;done)|(go_simp;rfl));intro gb161 hg w5 hbox hb;have n0_:=Aside0.mk (below_step (by repeat (with_reducible first|exact HB.out|apply below_alloc|apply pw_below_drewN|apply below_drew1)) hb);have n1_:=Aside0.mk (hbox);have n2_:=Aside0.mk ((by rw [hg];exact (below_size (by repeat (with_reducible first|exact HB.out|apply below_alloc|apply pw_below_drewN|apply below_drew1))):w.heap.size≤gb161));have n3_:=Aside0.mk ((by rw [hg];exact (below_size (by repeat (with_reducible first|exact HB.out|apply below_alloc|apply pw_below_drewN|apply below_drew1))):w.heap.size≤gb161));clear HB;have HB:=n0_;have BK161:=n1_;have GW161:=n2_;have GE161:=n3_;clear n0_ n1_ n2_ n3_;clear hb hbox hg)|((with_reducible refine gate_dst (N:=3) rfl ?_);refine box_event ?hg (N:=3) ?hd (cs:=#[.bool a1_0,.slice A1_1 l1_1.length c1_1]) (t:=73) ?hr ?_;(case hd=>rfl);(case hg=>rfl);(case hr=>first|(go_simp;done)|(go_simp;rfl));intro gb162 hg w6 hbox hb;have n0_:=Aside0.mk (blk_below (g:=gb161) (o:=.cells #[.bool a0_0,.slice A0_1 l0_1.length c0_1] 73 (0,0)) (by (with_reducible repeat (first|refine blk_drewN ?_ _|refine blk_drew ?_|refine blk_alloc ?_ _));exact BK161.out) hb);have n1_:=Aside0.mk (below_step (by repeat (with_reducible first|exact HB.out|apply below_alloc|apply pw_below_drewN|apply below_drew1|refine below_set ?_ GE161.out)) hb);have n2_:=Aside0.mk (hbox);have n3_:=Aside0.mk ((by rw [hg];exact (below_size (by repeat (with_reducible first|exact HB.out|apply below_alloc|apply pw_below_drewN|apply below_drew1|refine below_set ?_ GE161.out))):w.heap.size≤gb162));have n4_:=Aside0.mk ((by rw [hg];exact (below_size (by repeat (with_reducible first|exact HB.out|apply below_alloc|apply pw_below_drewN|apply below_drew1|refine below_set ?_ GE161.out))):w.heap.size≤gb162));have n5_:=Aside0.mk ((by rw [hg];exact Nat.ne_of_lt (blk_lt (g:=gb161) (o:=.cells #[.bool a0_0,.slice A0_1 l0_1.length c0_1] 73 (0,0)) (by (with_reducible repeat (first|refine blk_drewN ?_ _|refine blk_drew ?_|refine blk_alloc ?_ _));exact BK161.out)):gb161≠gb162));have n6_:=Aside0.mk ((by rw [hg];exact Nat.ne_of_gt (blk_lt (g:=gb161) (o:=.cells #[.bool a0_0,.slice A0_1 l0_1.length c0_1] 73 (0,0)) (by (with_reducible repeat (first|refine blk_drewN ?_ _|refine blk_drew ?_|refine blk_alloc ?_ _));exact BK161.out)):gb162≠gb161));clear BK161;clear HB;have BK161:=n0_;have HB:=n1_;have BK162:=n2_;have GW162:=n3_;have GE162:=n4_;have NB161_162:=n5_;have NB162_161:=n6_;clear n0_ n1_ n2_ n3_ n4_ n5_ n6_;clear hb hbox hg)|((with_reducible refine gate_dst (N:=4) rfl ?_);refine box_event ?hg (N:=4) ?hd (cs:=#[.bool false,.slice none 0 0]) (t:=73) ?hr ?_;(case hd=>rfl);(case hg=>rfl);(case hr=>first|(go_simp;done)|(go_simp;rfl));intro gb163 hg w7 hbox hb;have n0_:=Aside0.mk (blk_below (g:=gb161) (o:=.cells #[.bool a0_0,.slice A0_1 l0_1.length c0_1] 73 (0,0)) (by (with_reducible repeat (first|refine blk_drewN ?_ _|refine blk_drew ?_|refine blk_alloc ?_ _));exact BK161.out) hb);have n1_:=Aside0.mk (blk_below (g:=gb162) (o:=.cells #[.bool a1_0,.slice A1_1 l1_1.length c1_1] 73 (0,0)) (by (with_reducible repeat (first|refine blk_drewN ?_ _|refine blk_drew ?_|refine blk_alloc ?_ _));exact BK162.out) hb);have n2_:=Aside0.mk (below_step (by repeat (with_reducible first|exact HB.out|apply below_alloc|apply pw_below_drewN|apply below_drew1|refine below_set ?_ GE161.out|refine below_set ?_ GE162.out)) hb);have n3_:=Aside0.mk (hbox);have n4_:=Aside0.mk ((by rw [hg];exact (below_size (by repeat (with_reducible first|exact HB.out|apply below_alloc|apply pw_below_drewN|apply below_drew1|refine below_set ?_ GE161.out|refine below_set ?_ GE162.out))):w.heap.size≤gb163));have n5_:=Aside0.mk ((by rw [hg];exact (below_size (by repeat (with_reducible first|exact HB.out|apply below_alloc|apply pw_below_drewN|apply below_drew1|refine below_set ?_ GE161.out|refine below_set ?_ GE162.out))):w.heap.size≤gb163));have n6_:=Aside0.mk ((by rw [hg];exact Nat.ne_of_lt (blk_lt (g:=gb161) (o:=.cells #[.bool a0_0,.slice A0_1 l0_1.length c0_1] 73 (0,0)) (by (with_reducible repeat (first|refine blk_drewN ?_ _|refine blk_drew ?_|refine blk_alloc ?_ _));exact BK161.out)):gb161≠gb163));have n7_:=Aside0.mk ((by rw [hg];exact Nat.ne_of_gt (blk_lt (g:=gb161) (o:=.cells #[.bool a0_0,.slice A0_1 l0_1.length c0_1] 73 (0,0)) (by (with_reducible repeat (first|refine blk_drewN ?_ _|refine blk_drew ?_|refine blk_alloc ?_ _));exact BK161.out)):gb163≠gb161));have n8_:=Aside0.mk ((by rw [hg];exact Nat.ne_of_lt (blk_lt (g:=gb162) (o:=.cells #[.bool a1_0,.slice A1_1 l1_1.length c1_1] 73 (0,0)) (by (with_reducible repeat (first|refine blk_drewN ?_ _|refine blk_drew ?_|refine blk_alloc ?_ _));exact BK162.out)):gb162≠gb163));have n9_:=Aside0.mk ((by rw [hg];exact Nat.ne_of_gt (blk_lt (g:=gb162) (o:=.cells #[.bool a1_0,.slice A1_1 l1_1.length c1_1] 73 (0,0)) (by (with_reducible repeat (first|refine blk_drewN ?_ _|refine blk_drew ?_|refine blk_alloc ?_ _));exact BK162.out)):gb163≠gb162));clear BK161;clear BK162;clear HB;have BK161:=n0_;have BK162:=n1_;have HB:=n2_;have BK163:=n3_;have GW163:=n4_;have GE163:=n5_;have NB161_163:=n6_;have NB163_161:=n7_;have NB162_163:=n8_;have NB163_162:=n9_;clear n0_ n1_ n2_ n3_ n4_ n5_ n6_ n7_ n8_ n9_;clear hb hbox hg;have hnb8:=NB161_162.out;have hnc8:=NB162_161.out;have hnb9:=NB161_163.out;have hnc9:=NB163_161.out;have hcz10_0:w7.cell? ⟨gb161,0,none⟩=some (.bool a0_0):=(blk_cell BK161.out 0).trans rfl;have hcz10_1:w7.cell? ⟨gb161,1,none⟩=some (.slice A0_1 l0_1.length c0_1):=(blk_cell BK161.out 1).trans rfl;have hfz10_0:=blk_frozen BK161.out 0;have hfz10_1:=blk_frozen BK161.out 1;have hnb11:=NB162_163.out;have hnc11:=NB163_162.out;have hcz12_0:w7.cell? ⟨gb162,0,none⟩=some (.bool a1_0):=(blk_cell BK162.out 0).trans rfl;have hcz12_1:w7.cell? ⟨gb162,1,none⟩=some (.slice A1_1 l1_1.length c1_1):=(blk_cell BK162.out 1).trans rfl;have hfz12_0:=blk_frozen BK162.out 0;have hfz12_1:=blk_frozen BK162.out 1))
   have n0_:=Aside0.mk (blk_drew BK161.out)
   have n1_:=Aside0.mk (blk_drew BK162.out)
   have n2_:=Aside0.mk (blk_drew BK163.out)
   have n3_:=Aside0.mk (below_drew1 HB.out)
   clear BK161
   clear BK162
   clear BK163
   clear HB
   have BK161:=n0_
   have BK162:=n1_
   have BK163:=n2_
   have HB:=n3_
   clear n0_ n1_ n2_ n3_
   refine start_ (n:=9) (S:=fun w'=>w'.cell? ⟨gb161,0,none⟩=some (.bool a0_0)∧w'.cell? ⟨gb161,1,none⟩=some (.slice A0_1 l0_1.length c0_1)∧w'.cell? ⟨gb162,0,none⟩=some (.bool a1_0)∧w'.cell? ⟨gb162,1,none⟩=some (.slice A1_1 l1_1.length c1_1)) (ds:=[]) #[false,false,false,false,false,false,false,false,false] (by kernel_rfl) rfl rfl ⟨(blk_cell BK161.out 0).trans rfl,(blk_cell BK161.out 1).trans rfl,(blk_cell BK162.out 0).trans rfl,(blk_cell BK162.out 1).trans rfl⟩ (fun hHeld=>?_);refine with_tabW octroiref01_Add.tab2 octroiref01_Add.bits2 (fun HT_ HW_=>?_)
   generalize w7.drew=w13 at BK161 BK162 BK163 HB hHeld ⊢
   refine pure_ (i:=0) (N:=some 11) (v:=?_) (a':=?_) #[true,false,false,false,false,false,false,false,false] rfl rfl (any_of HT_.out (by kernel_rfl)) (fun _ _ _ h=>h) (Or.inl ⟨by rfl,?_⟩) ?_ ?_
   rotate_left
   · intro w'
     go_simp
     with_reducible rfl
   rotate_left
   · simp only [Act.put,List.setIfInBounds_toArray,List.set_cons_zero,List.set_cons_succ,i64_w,i32_w]
     rfl
   refine pure_ (i:=2) (N:=some 13) (v:=?_) (a':=?_) #[true,false,true,false,false,false,false,false,false] rfl rfl (any_of HT_.out (by kernel_rfl)) (fun _ _ _ h=>h) (Or.inl ⟨by rfl,?_⟩) ?_ ?_
   rotate_left
   · intro w'
     go_simp
     with_reducible rfl
   rotate_left
   · simp only [Act.put,List.setIfInBounds_toArray,List.set_cons_zero,List.set_cons_succ,i64_w,i32_w]
     rfl
   refine pure_ (i:=4) (N:=some 15) (v:=?_) (a':=?_) #[true,false,true,false,true,false,false,false,false] rfl rfl (any_of HT_.out (by kernel_rfl)) (fun _ _ _ h=>h) (Or.inl ⟨by rfl,?_⟩) ?_ ?_
   rotate_left
   · intro w'
     go_simp
     with_reducible rfl
   rotate_left
   · simp only [Act.put,List.setIfInBounds_toArray,List.set_cons_zero,List.set_cons_succ,i64_w,i32_w]
     rfl
   refine take_ (i:=1) (N:=some 12) (v:=?_) (a':=?_) #[true,true,true,false,true,false,false,false,false] rfl rfl (take_ofW HT_.out HW_.out (by kernel_rfl)) (fun _ _ _ h=>h) (Or.inl ⟨by rfl,?_⟩) hHeld ?_ ?_
   rotate_left
   · rintro w' ⟨s0,s1,s2,s3⟩
     go_simp
     with_reducible rfl
   rotate_left
   · simp only [Act.put,List.setIfInBounds_toArray,List.set_cons_zero,List.set_cons_succ,i64_w,i32_w]
     rfl
   refine take_ (i:=3) (N:=some 14) (v:=?_) (a':=?_) #[true,true,true,true,true,false,false,false,false] rfl rfl (take_ofW HT_.out HW_.out (by kernel_rfl)) (fun _ _ _ h=>h) (Or.inl ⟨by rfl,?_⟩) hHeld ?_ ?_
   rotate_left
   · rintro w' ⟨s0,s1,s2,s3⟩
     go_simp
     with_reducible rfl
   rotate_left
   · simp only [Act.put,List.setIfInBounds_toArray,List.set_cons_zero,List.set_cons_succ,i64_w,i32_w]
     rfl
   refine take_ (i:=5) (N:=some 16) (v:=?_) (a':=?_) #[true,true,true,true,true,true,false,false,false] rfl rfl (take_ofW HT_.out HW_.out (by kernel_rfl)) (fun _ _ _ h=>h) (Or.inl ⟨by rfl,?_⟩) hHeld ?_ ?_
   rotate_left
   · rintro w' ⟨s0,s1,s2,s3⟩
     go_simp
     with_reducible rfl
   rotate_left
   · simp only [Act.put,List.setIfInBounds_toArray,List.set_cons_zero,List.set_cons_succ,i64_w,i32_w]
     rfl
   refine one_ (i:=6) (N:=some 17) #[true,true,true,true,true,true,true,false,false] rfl rfl (one_of HT_.out (by kernel_rfl)) (by decide) (fun K hK=>?_)
   refine goes_ Try.func46 (by kernel_rfl) rfl #[.slice A0_1 l0_1.length c0_1,.slice A1_1 l1_1.length c1_1] (by rfl) rfl rfl (by (try simp only [List.map_toArray,List.map_cons,List.map_nil]);first|done|rfl|(simp only [List.length_drop,List.length_take];rfl)) ?_
   with_reducible refine (octroiref01_plus.calls k _ _ l0_1 _ _ l1_1 t164 _ ?side1 ?side2 ?side3 ?side4 A4.out).mono ?_
   (case side1=>repeat (first|exact (Kd.C_below HR0_1.out HB.out)|(with_reducible refine Kd.C_alloc ?_ _)|(with_reducible refine Kd.C_drewN ?_ _)|(with_reducible refine Kd.C_drew ?_)))
   (case side2=>exact HC0_1.out)
   (case side3=>repeat (first|exact (Kd.C_below HR1_1.out HB.out)|(with_reducible refine Kd.C_alloc ?_ _)|(with_reducible refine Kd.C_drewN ?_ _)|(with_reducible refine Kd.C_drew ?_)))
   (case side4=>exact HC1_1.out)
   rintro e w14 ⟨v165,rfl,ho0,hb⟩
   refine ⟨_,rfl,?_⟩
   have n0_:=Aside0.mk (Kd.R_lower ho0 (below_size (by repeat (with_reducible first|exact HB.out|apply below_alloc|apply pw_below_drewN|apply below_drew1|refine below_set ?_ GE161.out|refine below_set ?_ GE162.out|refine below_set ?_ GE163.out))))
   have n1_:=Aside0.mk (blk_below (g:=gb161) (o:=.cells #[.bool a0_0,.slice A0_1 l0_1.length c0_1] 73 (0,0)) (by (with_reducible repeat (first|refine blk_drewN ?_ _|refine blk_drew ?_|refine blk_alloc ?_ _));exact BK161.out) hb)
   have n2_:=Aside0.mk (blk_below (g:=gb162) (o:=.cells #[.bool a1_0,.slice A1_1 l1_1.length c1_1] 73 (0,0)) (by (with_reducible repeat (first|refine blk_drewN ?_ _|refine blk_drew ?_|refine blk_alloc ?_ _));exact BK162.out) hb)
   have n3_:=Aside0.mk (blk_below (g:=gb163) (o:=.cells #[.bool false,.slice none 0 0] 73 (0,0)) (by (with_reducible repeat (first|refine blk_drewN ?_ _|refine blk_drew ?_|refine blk_alloc ?_ _));exact BK163.out) hb)
   have n4_:=Aside0.mk (below_step (by repeat (with_reducible first|exact HB.out|apply below_alloc|apply pw_below_drewN|apply below_drew1|refine below_set ?_ GE161.out|refine below_set ?_ GE162.out|refine below_set ?_ GE163.out)) hb)
   clear BK161
   clear BK162
   clear BK163
   clear HB
   have HO166:=n0_
   have BK161:=n1_
   have BK162:=n2_
   have BK163:=n3_
   have HB:=n4_
   clear n0_ n1_ n2_ n3_ n4_
   (try clear hb)
   (try clear hb2)
   (try clear hk)
   (try clear hi)
   (try clear ho0)
   obtain ⟨Ao15,co15,eo15⟩:=Kd.R_slice HO166.out
   (first|subst eo15|(injection eo15 with f1_ f2_ f3_;have f4_:=f1_.symm;have f5_:=f3_.symm;clear f1_ f2_ f3_;subst f4_;subst f5_))
   refine hK.out _ _ ⟨(blk_cell BK161.out 0).trans rfl,(blk_cell BK161.out 1).trans rfl,(blk_cell BK162.out 0).trans rfl,(blk_cell BK162.out 1).trans rfl⟩ (fun hHeld=>?_)
   clear hK K
   refine norm_ (a':=?_) ?_ ?_
   rotate_left
   · show Act.put _ (some 17) _=_
     simp only [Act.put,List.setIfInBounds_toArray,List.set_cons_zero,List.set_cons_succ,i64_w,i32_w]
     rfl
   refine pure_ (i:=7) (N:=some 18) (v:=?_) (a':=?_) #[true,true,true,true,true,true,true,true,false] rfl rfl (any_of HT_.out (by kernel_rfl)) (fun _ _ _ h=>h) (Or.inl ⟨by rfl,?_⟩) ?_ ?_
   rotate_left
   · intro w'
     go_simp
     with_reducible rfl
   rotate_left
   · simp only [Act.put,List.setIfInBounds_toArray,List.set_cons_zero,List.set_cons_succ,i64_w,i32_w]
     rfl
   refine one_ (i:=8) (N:=none) #[true,true,true,true,true,true,true,true,true] rfl rfl (one_of HT_.out (by kernel_rfl)) (by decide) (fun K hK=>?_)
   have hs16:w14.cell? ⟨gb163,0,none⟩=some (.bool false):=(blk_cell BK163.out 0).trans rfl
   have hfs16:=blk_frozen BK163.out 0
   have hns16_0:=NB161_163.out
   have hns16_1:=NB162_163.out
   have hms16_0:=NB163_161.out
   have hms16_1:=NB163_162.out
   have hs17:w14.cell? ⟨gb163,1,none⟩=some (.slice none 0 0):=(blk_cell BK163.out 1).trans rfl
   have hfs17:=blk_frozen BK163.out 1
   have hns17_0:=NB161_163.out
   have hns17_1:=NB162_163.out
   have hms17_0:=NB163_161.out
   have hms17_1:=NB163_162.out
   refine skip_ (w1:=?_) (by rfl) rfl ?_ ?_
   rotate_left
   · go_simp
     rfl
   refine hK.out _ _ ⟨((cell_far (p:=⟨gb163,_,none⟩) NB161_163.out _).trans (((cell_far (p:=⟨gb163,_,none⟩) NB161_163.out _).trans (hHeld.1)))),((cell_far (p:=⟨gb163,_,none⟩) NB161_163.out _).trans (((cell_far (p:=⟨gb163,_,none⟩) NB161_163.out _).trans (hHeld.2.1)))),((cell_far (p:=⟨gb163,_,none⟩) NB162_163.out _).trans (((cell_far (p:=⟨gb163,_,none⟩) NB162_163.out _).trans (hHeld.2.2.1)))),((cell_far (p:=⟨gb163,_,none⟩) NB162_163.out _).trans (((cell_far (p:=⟨gb163,_,none⟩) NB162_163.out _).trans (hHeld.2.2.2))))⟩ (fun hHeld=>?_)
   clear hK K
   refine done_ (done_of HT_.out (by kernel_rfl)) ?_
   try go_wp2
   refine bodyPost_ret (results_cell_row rfl _ _ gb163 73 #[.bool a0_0,.slice Ao15 t164.length co15] (0,0) _ rfl (by (with_reducible repeat (first|refine blk_drewN ?_ _|refine blk_drew ?_|refine blk_alloc ?_ _));refine blk_put (cs:=#[.bool a0_0,.slice none 0 0]) ?_ 1 _ rfl;(with_reducible repeat (first|refine blk_drewN ?_ _|refine blk_drew ?_|refine blk_alloc ?_ _));refine blk_put (cs:=#[.bool false,.slice none 0 0]) ?_ 0 _ rfl;(with_reducible repeat (first|refine blk_drewN ?_ _|refine blk_drew ?_|refine blk_alloc ?_ _));exact BK163.out) Try.underlying73 rfl (by kernel_rfl)) rfl ?_
   exact ⟨_,by first|rfl|(simp [errW_none,errW_some]<;>rfl)|(simp [*,errW_none,errW_some]<;>rfl),by (with_reducible repeat (first|apply Kd.R_alloc|apply Kd.R_drewN|apply Kd.R_drew));exact Kd.R_mono (Kd.R_far (p:=⟨gb163,1,none⟩) (Kd.R_far (p:=⟨gb163,0,none⟩) (Kd.R_types HO166.out BK163.out (by decide)) (fun _ hk=>hk.2) (.bool a0_0)) (fun _ hk=>hk.2) (.slice Ao15 t164.length co15)) (fun _ hk=>trivial),by repeat (with_reducible first|exact HB.out|apply below_alloc|apply pw_below_drewN|apply below_drew1|refine below_set ?_ GE161.out|refine below_set ?_ GE162.out|refine below_set ?_ GE163.out)⟩
 · rw [if_neg c3] at H
   have c3b0:(a0_0 == a1_0)=false:=by simpa using c3
   (try (have c3b1:decide (a0_0=a1_0)=false:=by simpa using c3))
   (try (have c3b2:(a0_0 == a1_0)=false:=by simpa using c3))
   (try (have c3b3:¬ (a0_0=a1_0):=by simpa using c3))
   clear c3
   replace H:=Option.bind_eq_some_iff.mp H
   obtain ⟨t167,A180,H⟩:=H
   replace H:(if t167=0 then (some (false,([]:List Int))) else (if t167>0 then ((octroiref01_minus.f k l0_1 l1_1).bind fun t168=>(some (a0_0,t168))) else ((octroiref01_minus.f k l1_1 l0_1).bind fun t171=>(some (a1_0,t171)))))=some (r1,r2):=H
   have A18:=Aside0.mk A180
   clear A180
   by_cases c19:t167=0
   · rw [if_pos c19] at H
     have c19b0:(t167 == 0)=true:=beq_iff_eq.mpr c19
     have c19b1:(t167 != 0)=false:=bne_eq_false_iff_eq.mpr c19
     clear c19
     simp only [Option.some.injEq,Prod.mk.injEq] at H
     obtain ⟨rfl,rfl⟩:=H
     go_enter Try.func26,Try.ntmps26
     go_wp2_with (first|((with_reducible refine gate_dst (N:=2) rfl ?_);refine box_event ?hg (N:=2) ?hd (cs:=#[.bool a0_0,.slice A0_1 l0_1.length c0_1]) (t:=73) ?hr ?_;(case hd=>rfl);(case hg=>rfl);(case hr=>first|(go_simp;done)|(go_simp;rfl));intro gb161 hg w20 hbox hb;have n0_:=Aside0.mk (below_step (by repeat (with_reducible first|exact HB.out|apply below_alloc|apply pw_below_drewN|apply below_drew1)) hb);have n1_:=Aside0.mk (hbox);have n2_:=Aside0.mk ((by rw [hg];exact (below_size (by repeat (with_reducible first|exact HB.out|apply below_alloc|apply pw_below_drewN|apply below_drew1))):w.heap.size≤gb161));have n3_:=Aside0.mk ((by rw [hg];exact (below_size (by repeat (with_reducible first|exact HB.out|apply below_alloc|apply pw_below_drewN|apply below_drew1))):w.heap.size≤gb161));clear HB;have HB:=n0_;have BK161:=n1_;have GW161:=n2_;have GE161:=n3_;clear n0_ n1_ n2_ n3_;clear hb hbox hg)|((with_reducible refine gate_dst (N:=3) rfl ?_);refine box_event ?hg (N:=3) ?hd (cs:=#[.bool a1_0,.slice A1_1 l1_1.length c1_1]) (t:=73) ?hr ?_;(case hd=>rfl);(case hg=>rfl);(case hr=>first|(go_simp;done)|(go_simp;rfl));intro gb162 hg w21 hbox hb;have n0_:=Aside0.mk (blk_below (g:=gb161) (o:=.cells #[.bool a0_0,.slice A0_1 l0_1.length c0_1] 73 (0,0)) (by (with_reducible repeat (first|refine blk_drewN ?_ _|refine blk_drew ?_|refine blk_alloc ?_ _));exact BK161.out) hb);have n1_:=Aside0.mk (below_step (by repeat (with_reducible first|exact HB.out|apply below_alloc|apply pw_below_drewN|apply below_drew1|refine below_set ?_ GE161.out)) hb);have n2_:=Aside0.mk (hbox);have n3_:=Aside0.mk ((by rw [hg];exact (below_size (by repeat (with_reducible first|exact HB.out|apply below_alloc|apply pw_below_drewN|apply below_drew1|refine below_set ?_ GE161.out))):w.heap.size≤gb162));have n4_:=Aside0.mk ((by rw [hg];exact (below_size (by repeat (with_reducible first|exact HB.out|apply below_alloc|apply pw_below_drewN|apply below_drew1|refine below_set ?_ GE161.out))):w.heap.size≤gb162));have n5_:=Aside0.mk ((by rw [hg];exact Nat.ne_of_lt (blk_lt (g:=gb161) (o:=.cells #[.bool a0_0,.slice A0_1 l0_1.length c0_1] 73 (0,0)) (by (with_reducible repeat (first|refine blk_drewN ?_ _|refine blk_drew ?_|refine blk_alloc ?_ _));exact BK161.out)):gb161≠gb162));have n6_:=Aside0.mk ((by rw [hg];exact Nat.ne_of_gt (blk_lt (g:=gb161) (o:=.cells #[.bool a0_0,.slice A0_1 l0_1.length c0_1] 73 (0,0)) (by (with_reducible repeat (first|refine blk_drewN ?_ _|refine blk_drew ?_|refine blk_alloc ?_ _));exact BK161.out)):gb162≠gb161));clear BK161;clear HB;have BK161:=n0_;have HB:=n1_;have BK162:=n2_;have GW162:=n3_;have GE162:=n4_;have NB161_162:=n5_;have NB162_161:=n6_;clear n0_ n1_ n2_ n3_ n4_ n5_ n6_;clear hb hbox hg)|((with_reducible refine gate_dst (N:=4) rfl ?_);refine box_event ?hg (N:=4) ?hd (cs:=#[.bool false,.slice none 0 0]) (t:=73) ?hr ?_;(case hd=>rfl);(case hg=>rfl);(case hr=>first|(go_simp;done)|(go_simp;rfl));intro gb163 hg w22 hbox hb;have n0_:=Aside0.mk (blk_below (g:=gb161) (o:=.cells #[.bool a0_0,.slice A0_1 l0_1.length c0_1] 73 (0,0)) (by (with_reducible repeat (first|refine blk_drewN ?_ _|refine blk_drew ?_|refine blk_alloc ?_ _));exact BK161.out) hb);have n1_:=Aside0.mk (blk_below (g:=gb162) (o:=.cells #[.bool a1_0,.slice A1_1 l1_1.length c1_1] 73 (0,0)) (by (with_reducible repeat (first|refine blk_drewN ?_ _|refine blk_drew ?_|refine blk_alloc ?_ _));exact BK162.out) hb);have n2_:=Aside0.mk (below_step (by repeat (with_reducible first|exact HB.out|apply below_alloc|apply pw_below_drewN|apply below_drew1|refine below_set ?_ GE161.out|refine below_set ?_ GE162.out)) hb);have n3_:=Aside0.mk (hbox);have n4_:=Aside0.mk ((by rw [hg];exact (below_size (by repeat (with_reducible first|exact HB.out|apply below_alloc|apply pw_below_drewN|apply below_drew1|refine below_set ?_ GE161.out|refine below_set ?_ GE162.out))):w.heap.size≤gb163));have n5_:=Aside0.mk ((by rw [hg];exact (below_size (by repeat (with_reducible first|exact HB.out|apply below_alloc|apply pw_below_drewN|apply below_drew1|refine below_set ?_ GE161.out|refine below_set ?_ GE162.out))):w.heap.size≤gb163));have n6_:=Aside0.mk ((by rw [hg];exact Nat.ne_of_lt (blk_lt (g:=gb161) (o:=.cells #[.bool a0_0,.slice A0_1 l0_1.length c0_1] 73 (0,0)) (by (with_reducible repeat (first|refine blk_drewN ?_ _|refine blk_drew ?_|refine blk_alloc ?_ _));exact BK161.out)):gb161≠gb163));have n7_:=Aside0.mk ((by rw [hg];exact Nat.ne_of_gt (blk_lt (g:=gb161) (o:=.cells #[.bool a0_0,.slice A0_1 l0_1.length c0_1] 73 (0,0)) (by (with_reducible repeat (first|refine blk_drewN ?_ _|refine blk_drew ?_|refine blk_alloc ?_ _));exact BK161.out)):gb163≠gb161));have n8_:=Aside0.mk ((by rw [hg];exact Nat.ne_of_lt (blk_lt (g:=gb162) (o:=.cells #[.bool a1_0,.slice A1_1 l1_1.length c1_1] 73 (0,0)) (by (with_reducible repeat (first|refine blk_drewN ?_ _|refine blk_drew ?_|refine blk_alloc ?_ _));exact BK162.out)):gb162≠gb163));have n9_:=Aside0.mk ((by rw [hg];exact Nat.ne_of_gt (blk_lt (g:=gb162) (o:=.cells #[.bool a1_0,.slice A1_1 l1_1.length c1_1] 73 (0,0)) (by (with_reducible repeat (first|refine blk_drewN ?_ _|refine blk_drew ?_|refine blk_alloc ?_ _));exact BK162.out)):gb163≠gb162));clear BK161;clear BK162;clear HB;have BK161:=n0_;have BK162:=n1_;have HB:=n2_;have BK163:=n3_;have GW163:=n4_;have GE163:=n5_;have NB161_163:=n6_;have NB163_161:=n7_;have NB162_163:=n8_;have NB163_162:=n9_;clear n0_ n1_ n2_ n3_ n4_ n5_ n6_ n7_ n8_ n9_;clear hb hbox hg;have hnb23:=NB161_162.out;have hnc23:=NB162_161.out;have hnb24:=NB161_163.out;have hnc24:=NB163_161.out;have hcz25_0:w22.cell? ⟨gb161,0,none⟩=some (.bool a0_0):=(blk_cell BK161.out 0).trans rfl;have hcz25_1:w22.cell? ⟨gb161,1,none⟩=some (.slice A0_1 l0_1.length c0_1):=(blk_cell BK161.out 1).trans rfl;have hfz25_0:=blk_frozen BK161.out 0;have hfz25_1:=blk_frozen BK161.out 1;have hnb26:=NB162_163.out;have hnc26:=NB163_162.out;have hcz27_0:w22.cell? ⟨gb162,0,none⟩=some (.bool a1_0):=(blk_cell BK162.out 0).trans rfl;have hcz27_1:w22.cell? ⟨gb162,1,none⟩=some (.slice A1_1 l1_1.length c1_1):=(blk_cell BK162.out 1).trans rfl;have hfz27_0:=blk_frozen BK162.out 0;have hfz27_1:=blk_frozen BK162.out 1)|((with_reducible refine gate_callee (f:=47) rfl ?_);refine goesL_ (some 23) rfl rfl Try.func47 (by kernel_rfl) rfl #[.slice A0_1 l0_1.length c0_1,.slice A1_1 l1_1.length c1_1] rfl (by (try simp only [List.map_toArray,List.map_cons,List.map_nil]);first|done|rfl|(simp only [List.length_drop,List.length_take];rfl)) ?_;(with_reducible refine (octroiref01_cmp.calls k _ _ l0_1 _ _ l1_1 t167 _ ?side1 ?side2 ?side3 ?side4 A18.out).mono ?_);(case side1=>repeat (first|exact (Kd.C_below HR0_1.out HB.out)|(with_reducible refine Kd.C_alloc ?_ _)|(with_reducible refine Kd.C_drewN ?_ _)|(with_reducible refine Kd.C_drew ?_)));(case side2=>exact HC0_1.out);(case side3=>repeat (first|exact (Kd.C_below HR1_1.out HB.out)|(with_reducible refine Kd.C_alloc ?_ _)|(with_reducible refine Kd.C_drewN ?_ _)|(with_reducible refine Kd.C_drew ?_)));(case side4=>exact HC1_1.out);rintro e w' ⟨rfl,⟨nd,rfl⟩⟩;refine ⟨_,rfl,?_⟩;(try (rw [drewN_self w22];generalize hq_:World.drewN w22 _=w22;have n0_:Aside0 (w22.heap[gb161]? = some (.cells #[.bool a0_0,.slice A0_1 l0_1.length c0_1] 73 (0,0))):=⟨by rw [← hq_];exact (by (with_reducible repeat (first|refine blk_drewN ?_ _|refine blk_drew ?_|refine blk_alloc ?_ _));exact BK161.out)⟩;have n1_:Aside0 (w22.heap[gb162]? = some (.cells #[.bool a1_0,.slice A1_1 l1_1.length c1_1] 73 (0,0))):=⟨by rw [← hq_];exact (by (with_reducible repeat (first|refine blk_drewN ?_ _|refine blk_drew ?_|refine blk_alloc ?_ _));exact BK162.out)⟩;have n2_:Aside0 (w22.heap[gb163]? = some (.cells #[.bool false,.slice none 0 0] 73 (0,0))):=⟨by rw [← hq_];exact (by (with_reducible repeat (first|refine blk_drewN ?_ _|refine blk_drew ?_|refine blk_alloc ?_ _));exact BK163.out)⟩;have n3_:Aside0 (Below w.heap.size w w22):=⟨by rw [← hq_];exact (by repeat (with_reducible first|exact HB.out|apply below_alloc|apply pw_below_drewN|apply below_drew1|refine below_set ?_ GE161.out|refine below_set ?_ GE162.out|refine below_set ?_ GE163.out))⟩;clear BK161 BK162 BK163 HB hq_;have BK161:=n0_;have BK162:=n1_;have BK163:=n2_;have HB:=n3_;clear n0_ n1_ n2_ n3_));have hcz28_0:w22.cell? ⟨gb163,0,none⟩=some (.bool false):=(blk_cell BK163.out 0).trans rfl;have hcz28_1:w22.cell? ⟨gb163,1,none⟩=some (.slice none 0 0):=(blk_cell BK163.out 1).trans rfl;have hfz28_0:=blk_frozen BK163.out 0;have hfz28_1:=blk_frozen BK163.out 1))
     refine bodyPost_ret (results_cell_row rfl _ _ gb163 73 #[.bool false,.slice none 0 0] (0,0) _ rfl (by (with_reducible repeat (first|refine blk_drewN ?_ _|refine blk_drew ?_|refine blk_alloc ?_ _));refine blk_put (cs:=#[.bool false,.slice none 0 0]) ?_ 1 _ rfl;(with_reducible repeat (first|refine blk_drewN ?_ _|refine blk_drew ?_|refine blk_alloc ?_ _));refine blk_put (cs:=#[.bool false,.slice none 0 0]) ?_ 0 _ rfl;(with_reducible repeat (first|refine blk_drewN ?_ _|refine blk_drew ?_|refine blk_alloc ?_ _));exact BK163.out) Try.underlying73 rfl (by kernel_rfl)) rfl ?_
     exact ⟨_,by first|rfl|(simp [errW_none,errW_some]<;>rfl)|(simp [*,errW_none,errW_some]<;>rfl),by first|exact Kd.R_nil _ _ _ _ _|exact Kd.N_nil _ _ _ _ _|exact Kd.V_nil _ _ _ _ _|exact Kd.Q_nil _ _ _ _ _|exact Kd.S_nil _ _ _ _ _,by repeat (with_reducible first|exact HB.out|apply below_alloc|apply pw_below_drewN|apply below_drew1|refine below_set ?_ GE161.out|refine below_set ?_ GE162.out|refine below_set ?_ GE163.out)⟩
   · rw [if_neg c19] at H
     have c19b0:(t167 == 0)=false:=beq_eq_false_iff_ne.mpr c19
     have c19b1:(t167 != 0)=true:=bne_iff_ne.mpr c19
     by_cases c29:t167>0
     · rw [if_pos c29] at H
       have c29b0:decide (0<t167)=true:=decide_eq_true c29
       clear c29
       replace H:=Option.bind_eq_some_iff.mp H
       obtain ⟨t168,A300,H⟩:=H
       replace H:(some (a0_0,t168))=some (r1,r2):=H
       have A30:=Aside0.mk A300
       clear A300
       simp only [Option.some.injEq,Prod.mk.injEq] at H
       obtain ⟨rfl,rfl⟩:=H
       go_enter Try.func26,Try.ntmps26
       try go_wp2_with (first|((with_reducible refine gate_dst (N:=2) rfl ?_);refine box_event ?hg (N:=2) ?hd (cs:=#[.bool a0_0,.slice A0_1 l0_1.length c0_1]) (t:=73) ?hr ?_;(case hd=>rfl);(case hg=>rfl);(case hr=>first|(go_simp;done)|(go_simp;rfl));intro gb161 hg w31 hbox hb;have n0_:=Aside0.mk (below_step (by repeat (with_reducible first|exact HB.out|apply below_alloc|apply pw_below_drewN|apply below_drew1)) hb);have n1_:=Aside0.mk (hbox);have n2_:=Aside0.mk ((by rw [hg];exact (below_size (by repeat (with_reducible first|exact HB.out|apply below_alloc|apply pw_below_drewN|apply below_drew1))):w.heap.size≤gb161));have n3_:=Aside0.mk ((by rw [hg];exact (below_size (by repeat (with_reducible first|exact HB.out|apply below_alloc|apply pw_below_drewN|apply below_drew1))):w.heap.size≤gb161));clear HB;have HB:=n0_;have BK161:=n1_;have GW161:=n2_;have GE161:=n3_;clear n0_ n1_ n2_ n3_;clear hb hbox hg)|((with_reducible refine gate_dst (N:=3) rfl ?_);refine box_event ?hg (N:=3) ?hd (cs:=#[.bool a1_0,.slice A1_1 l1_1.length c1_1]) (t:=73) ?hr ?_;(case hd=>rfl);(case hg=>rfl);(case hr=>first|(go_simp;done)|(go_simp;rfl));intro gb162 hg w32 hbox hb;have n0_:=Aside0.mk (blk_below (g:=gb161) (o:=.cells #[.bool a0_0,.slice A0_1 l0_1.length c0_1] 73 (0,0)) (by (with_reducible repeat (first|refine blk_drewN ?_ _|refine blk_drew ?_|refine blk_alloc ?_ _));exact BK161.out) hb);have n1_:=Aside0.mk (below_step (by repeat (with_reducible first|exact HB.out|apply below_alloc|apply pw_below_drewN|apply below_drew1|refine below_set ?_ GE161.out)) hb);have n2_:=Aside0.mk (hbox);have n3_:=Aside0.mk ((by rw [hg];exact (below_size (by repeat (with_reducible first|exact HB.out|apply below_alloc|apply pw_below_drewN|apply below_drew1|refine below_set ?_ GE161.out))):w.heap.size≤gb162));have n4_:=Aside0.mk ((by rw [hg];exact (below_size (by repeat (with_reducible first|exact HB.out|apply below_alloc|apply pw_below_drewN|apply below_drew1|refine below_set ?_ GE161.out))):w.heap.size≤gb162));have n5_:=Aside0.mk ((by rw [hg];exact Nat.ne_of_lt (blk_lt (g:=gb161) (o:=.cells #[.bool a0_0,.slice A0_1 l0_1.length c0_1] 73 (0,0)) (by (with_reducible repeat (first|refine blk_drewN ?_ _|refine blk_drew ?_|refine blk_alloc ?_ _));exact BK161.out)):gb161≠gb162));have n6_:=Aside0.mk ((by rw [hg];exact Nat.ne_of_gt (blk_lt (g:=gb161) (o:=.cells #[.bool a0_0,.slice A0_1 l0_1.length c0_1] 73 (0,0)) (by (with_reducible repeat (first|refine blk_drewN ?_ _|refine blk_drew ?_|refine blk_alloc ?_ _));exact BK161.out)):gb162≠gb161));clear BK161;clear HB;have BK161:=n0_;have HB:=n1_;have BK162:=n2_;have GW162:=n3_;have GE162:=n4_;have NB161_162:=n5_;have NB162_161:=n6_;clear n0_ n1_ n2_ n3_ n4_ n5_ n6_;clear hb hbox hg)|((with_reducible refine gate_dst (N:=4) rfl ?_);refine box_event ?hg (N:=4) ?hd (cs:=#[.bool false,.slice none 0 0]) (t:=73) ?hr ?_;(case hd=>rfl);(case hg=>rfl);(case hr=>first|(go_simp;done)|(go_simp;rfl));intro gb163 hg w33 hbox hb;have n0_:=Aside0.mk (blk_below (g:=gb161) (o:=.cells #[.bool a0_0,.slice A0_1 l0_1.length c0_1] 73 (0,0)) (by (with_reducible repeat (first|refine blk_drewN ?_ _|refine blk_drew ?_|refine blk_alloc ?_ _));exact BK161.out) hb);have n1_:=Aside0.mk (blk_below (g:=gb162) (o:=.cells #[.bool a1_0,.slice A1_1 l1_1.length c1_1] 73 (0,0)) (by (with_reducible repeat (first|refine blk_drewN ?_ _|refine blk_drew ?_|refine blk_alloc ?_ _));exact BK162.out) hb);have n2_:=Aside0.mk (below_step (by repeat (with_reducible first|exact HB.out|apply below_alloc|apply pw_below_drewN|apply below_drew1|refine below_set ?_ GE161.out|refine below_set ?_ GE162.out)) hb);have n3_:=Aside0.mk (hbox);have n4_:=Aside0.mk ((by rw [hg];exact (below_size (by repeat (with_reducible first|exact HB.out|apply below_alloc|apply pw_below_drewN|apply below_drew1|refine below_set ?_ GE161.out|refine below_set ?_ GE162.out))):w.heap.size≤gb163));have n5_:=Aside0.mk ((by rw [hg];exact (below_size (by repeat (with_reducible first|exact HB.out|apply below_alloc|apply pw_below_drewN|apply below_drew1|refine below_set ?_ GE161.out|refine below_set ?_ GE162.out))):w.heap.size≤gb163));have n6_:=Aside0.mk ((by rw [hg];exact Nat.ne_of_lt (blk_lt (g:=gb161) (o:=.cells #[.bool a0_0,.slice A0_1 l0_1.length c0_1] 73 (0,0)) (by (with_reducible repeat (first|refine blk_drewN ?_ _|refine blk_drew ?_|refine blk_alloc ?_ _));exact BK161.out)):gb161≠gb163));have n7_:=Aside0.mk ((by rw [hg];exact Nat.ne_of_gt (blk_lt (g:=gb161) (o:=.cells #[.bool a0_0,.slice A0_1 l0_1.length c0_1] 73 (0,0)) (by (with_reducible repeat (first|refine blk_drewN ?_ _|refine blk_drew ?_|refine blk_alloc ?_ _));exact BK161.out)):gb163≠gb161));have n8_:=Aside0.mk ((by rw [hg];exact Nat.ne_of_lt (blk_lt (g:=gb162) (o:=.cells #[.bool a1_0,.slice A1_1 l1_1.length c1_1] 73 (0,0)) (by (with_reducible repeat (first|refine blk_drewN ?_ _|refine blk_drew ?_|refine blk_alloc ?_ _));exact BK162.out)):gb162≠gb163));have n9_:=Aside0.mk ((by rw [hg];exact Nat.ne_of_gt (blk_lt (g:=gb162) (o:=.cells #[.bool a1_0,.slice A1_1 l1_1.length c1_1] 73 (0,0)) (by (with_reducible repeat (first|refine blk_drewN ?_ _|refine blk_drew ?_|refine blk_alloc ?_ _));exact BK162.out)):gb163≠gb162));clear BK161;clear BK162;clear HB;have BK161:=n0_;have BK162:=n1_;have HB:=n2_;have BK163:=n3_;have GW163:=n4_;have GE163:=n5_;have NB161_163:=n6_;have NB163_161:=n7_;have NB162_163:=n8_;have NB163_162:=n9_;clear n0_ n1_ n2_ n3_ n4_ n5_ n6_ n7_ n8_ n9_;clear hb hbox hg;have hnb34:=NB161_162.out;have hnc34:=NB162_161.out;have hnb35:=NB161_163.out;have hnc35:=NB163_161.out;have hcz36_0:w33.cell? ⟨gb161,0,none⟩=some (.bool a0_0):=(blk_cell BK161.out 0).trans rfl;have hcz36_1:w33.cell? ⟨gb161,1,none⟩=some (.slice A0_1 l0_1.length c0_1):=(blk_cell BK161.out 1).trans rfl;have hfz36_0:=blk_frozen BK161.out 0;have hfz36_1:=blk_frozen BK161.out 1;have hnb37:=NB162_163.out;have hnc37:=NB163_162.out;have hcz38_0:w33.cell? ⟨gb162,0,none⟩=some (.bool a1_0):=(blk_cell BK162.out 0).trans rfl;have hcz38_1:w33.cell? ⟨gb162,1,none⟩=some (.slice A1_1 l1_1.length c1_1):=(blk_cell BK162.out 1).trans rfl;have hfz38_0:=blk_frozen BK162.out 0;have hfz38_1:=blk_frozen BK162.out 1)|((with_reducible refine gate_callee (f:=47) rfl ?_);refine goesL_ (some 23) rfl rfl Try.func47 (by kernel_rfl) rfl #[.slice A0_1 l0_1.length c0_1,.slice A1_1 l1_1.length c1_1] rfl (by (try simp only [List.map_toArray,List.map_cons,List.map_nil]);first|done|rfl|(simp only [List.length_drop,List.length_take];rfl)) ?_;(with_reducible refine (octroiref01_cmp.calls k _ _ l0_1 _ _ l1_1 t167 _ ?side1 ?side2 ?side3 ?side4 A18.out).mono ?_);(case side1=>repeat (first|exact (Kd.C_below HR0_1.out HB.out)|(with_reducible refine Kd.C_alloc ?_ _)|(with_reducible refine Kd.C_drewN ?_ _)|(with_reducible refine Kd.C_drew ?_)));(case side2=>exact HC0_1.out);(case side3=>repeat (first|exact (Kd.C_below HR1_1.out HB.out)|(with_reducible refine Kd.C_alloc ?_ _)|(with_reducible refine Kd.C_drewN ?_ _)|(with_reducible refine Kd.C_drew ?_)));(case side4=>exact HC1_1.out);rintro e w' ⟨rfl,⟨nd,rfl⟩⟩;refine ⟨_,rfl,?_⟩;(try (rw [drewN_self w33];generalize hq_:World.drewN w33 _=w33;have n0_:Aside0 (w33.heap[gb161]? = some (.cells #[.bool a0_0,.slice A0_1 l0_1.length c0_1] 73 (0,0))):=⟨by rw [← hq_];exact (by (with_reducible repeat (first|refine blk_drewN ?_ _|refine blk_drew ?_|refine blk_alloc ?_ _));exact BK161.out)⟩;have n1_:Aside0 (w33.heap[gb162]? = some (.cells #[.bool a1_0,.slice A1_1 l1_1.length c1_1] 73 (0,0))):=⟨by rw [← hq_];exact (by (with_reducible repeat (first|refine blk_drewN ?_ _|refine blk_drew ?_|refine blk_alloc ?_ _));exact BK162.out)⟩;have n2_:Aside0 (w33.heap[gb163]? = some (.cells #[.bool false,.slice none 0 0] 73 (0,0))):=⟨by rw [← hq_];exact (by (with_reducible repeat (first|refine blk_drewN ?_ _|refine blk_drew ?_|refine blk_alloc ?_ _));exact BK163.out)⟩;have n3_:Aside0 (Below w.heap.size w w33):=⟨by rw [← hq_];exact (by repeat (with_reducible first|exact HB.out|apply below_alloc|apply pw_below_drewN|apply below_drew1|refine below_set ?_ GE161.out|refine below_set ?_ GE162.out|refine below_set ?_ GE163.out))⟩;clear BK161 BK162 BK163 HB hq_;have BK161:=n0_;have BK162:=n1_;have BK163:=n2_;have HB:=n3_;clear n0_ n1_ n2_ n3_))))
       have n0_:=Aside0.mk (blk_drew BK161.out)
       have n1_:=Aside0.mk (blk_drew BK162.out)
       have n2_:=Aside0.mk (blk_drew BK163.out)
       have n3_:=Aside0.mk (below_drew1 HB.out)
       clear BK161
       clear BK162
       clear BK163
       clear HB
       have BK161:=n0_
       have BK162:=n1_
       have BK163:=n2_
       have HB:=n3_
       clear n0_ n1_ n2_ n3_
       refine start_ (n:=9) (S:=fun w'=>w'.cell? ⟨gb161,0,none⟩=some (.bool a0_0)∧w'.cell? ⟨gb161,1,none⟩=some (.slice A0_1 l0_1.length c0_1)∧w'.cell? ⟨gb162,0,none⟩=some (.bool a1_0)∧w'.cell? ⟨gb162,1,none⟩=some (.slice A1_1 l1_1.length c1_1)) (ds:=[]) #[false,false,false,false,false,false,false,false,false] (by kernel_rfl) rfl rfl ⟨(blk_cell BK161.out 0).trans rfl,(blk_cell BK161.out 1).trans rfl,(blk_cell BK162.out 0).trans rfl,(blk_cell BK162.out 1).trans rfl⟩ (fun hHeld=>?_);refine with_tabW octroiref01_Add.tab7 octroiref01_Add.bits7 (fun HT_ HW_=>?_)
       generalize w33.drew=w39 at BK161 BK162 BK163 HB hHeld ⊢
       refine pure_ (i:=0) (N:=some 29) (v:=?_) (a':=?_) #[true,false,false,false,false,false,false,false,false] rfl rfl (any_of HT_.out (by kernel_rfl)) (fun _ _ _ h=>h) (Or.inl ⟨by rfl,?_⟩) ?_ ?_
       rotate_left
       · intro w'
         go_simp
         with_reducible rfl
       rotate_left
       · simp only [Act.put,List.setIfInBounds_toArray,List.set_cons_zero,List.set_cons_succ,i64_w,i32_w]
         rfl
       refine pure_ (i:=2) (N:=some 31) (v:=?_) (a':=?_) #[true,false,true,false,false,false,false,false,false] rfl rfl (any_of HT_.out (by kernel_rfl)) (fun _ _ _ h=>h) (Or.inl ⟨by rfl,?_⟩) ?_ ?_
       rotate_left
       · intro w'
         go_simp
         with_reducible rfl
       rotate_left
       · simp only [Act.put,List.setIfInBounds_toArray,List.set_cons_zero,List.set_cons_succ,i64_w,i32_w]
         rfl
       refine pure_ (i:=4) (N:=some 33) (v:=?_) (a':=?_) #[true,false,true,false,true,false,false,false,false] rfl rfl (any_of HT_.out (by kernel_rfl)) (fun _ _ _ h=>h) (Or.inl ⟨by rfl,?_⟩) ?_ ?_
       rotate_left
       · intro w'
         go_simp
         with_reducible rfl
       rotate_left
       · simp only [Act.put,List.setIfInBounds_toArray,List.set_cons_zero,List.set_cons_succ,i64_w,i32_w]
         rfl
       refine take_ (i:=1) (N:=some 30) (v:=?_) (a':=?_) #[true,true,true,false,true,false,false,false,false] rfl rfl (take_ofW HT_.out HW_.out (by kernel_rfl)) (fun _ _ _ h=>h) (Or.inl ⟨by rfl,?_⟩) hHeld ?_ ?_
       rotate_left
       · rintro w' ⟨s0,s1,s2,s3⟩
         go_simp
         with_reducible rfl
       rotate_left
       · simp only [Act.put,List.setIfInBounds_toArray,List.set_cons_zero,List.set_cons_succ,i64_w,i32_w]
         rfl
       refine take_ (i:=3) (N:=some 32) (v:=?_) (a':=?_) #[true,true,true,true,true,false,false,false,false] rfl rfl (take_ofW HT_.out HW_.out (by kernel_rfl)) (fun _ _ _ h=>h) (Or.inl ⟨by rfl,?_⟩) hHeld ?_ ?_
       rotate_left
       · rintro w' ⟨s0,s1,s2,s3⟩
         go_simp
         with_reducible rfl
       rotate_left
       · simp only [Act.put,List.setIfInBounds_toArray,List.set_cons_zero,List.set_cons_succ,i64_w,i32_w]
         rfl
       refine take_ (i:=5) (N:=some 34) (v:=?_) (a':=?_) #[true,true,true,true,true,true,false,false,false] rfl rfl (take_ofW HT_.out HW_.out (by kernel_rfl)) (fun _ _ _ h=>h) (Or.inl ⟨by rfl,?_⟩) hHeld ?_ ?_
       rotate_left
       · rintro w' ⟨s0,s1,s2,s3⟩
         go_simp
         with_reducible rfl
       rotate_left
       · simp only [Act.put,List.setIfInBounds_toArray,List.set_cons_zero,List.set_cons_succ,i64_w,i32_w]
         rfl
       refine one_ (i:=6) (N:=some 35) #[true,true,true,true,true,true,true,false,false] rfl rfl (one_of HT_.out (by kernel_rfl)) (by decide) (fun K hK=>?_)
       refine goes_ Try.func48 (by kernel_rfl) rfl #[.slice A0_1 l0_1.length c0_1,.slice A1_1 l1_1.length c1_1] (by rfl) rfl rfl (by (try simp only [List.map_toArray,List.map_cons,List.map_nil]);first|done|rfl|(simp only [List.length_drop,List.length_take];rfl)) ?_
       with_reducible refine (octroiref01_minus.calls k _ _ l0_1 _ _ l1_1 t168 _ ?side1 ?side2 ?side3 ?side4 A30.out).mono ?_
       (case side1=>repeat (first|exact (Kd.C_below HR0_1.out HB.out)|(with_reducible refine Kd.C_alloc ?_ _)|(with_reducible refine Kd.C_drewN ?_ _)|(with_reducible refine Kd.C_drew ?_)))
       (case side2=>exact HC0_1.out)
       (case side3=>repeat (first|exact (Kd.C_below HR1_1.out HB.out)|(with_reducible refine Kd.C_alloc ?_ _)|(with_reducible refine Kd.C_drewN ?_ _)|(with_reducible refine Kd.C_drew ?_)))
       (case side4=>exact HC1_1.out)
       rintro e w40 ⟨v169,rfl,ho0,hb⟩
       refine ⟨_,rfl,?_⟩
       have n0_:=Aside0.mk (Kd.R_lower ho0 (below_size (by repeat (with_reducible first|exact HB.out|apply below_alloc|apply pw_below_drewN|apply below_drew1|refine below_set ?_ GE161.out|refine below_set ?_ GE162.out|refine below_set ?_ GE163.out))))
       have n1_:=Aside0.mk (blk_below (g:=gb161) (o:=.cells #[.bool a0_0,.slice A0_1 l0_1.length c0_1] 73 (0,0)) (by (with_reducible repeat (first|refine blk_drewN ?_ _|refine blk_drew ?_|refine blk_alloc ?_ _));exact BK161.out) hb)
       have n2_:=Aside0.mk (blk_below (g:=gb162) (o:=.cells #[.bool a1_0,.slice A1_1 l1_1.length c1_1] 73 (0,0)) (by (with_reducible repeat (first|refine blk_drewN ?_ _|refine blk_drew ?_|refine blk_alloc ?_ _));exact BK162.out) hb)
       have n3_:=Aside0.mk (blk_below (g:=gb163) (o:=.cells #[.bool false,.slice none 0 0] 73 (0,0)) (by (with_reducible repeat (first|refine blk_drewN ?_ _|refine blk_drew ?_|refine blk_alloc ?_ _));exact BK163.out) hb)
       have n4_:=Aside0.mk (below_step (by repeat (with_reducible first|exact HB.out|apply below_alloc|apply pw_below_drewN|apply below_drew1|refine below_set ?_ GE161.out|refine below_set ?_ GE162.out|refine below_set ?_ GE163.out)) hb)
       clear BK161
       clear BK162
       clear BK163
       clear HB
       have HO170:=n0_
       have BK161:=n1_
       have BK162:=n2_
       have BK163:=n3_
       have HB:=n4_
       clear n0_ n1_ n2_ n3_ n4_
       (try clear hb)
       (try clear hb2)
       (try clear hk)
       (try clear hi)
       (try clear ho0)
       obtain ⟨Ao41,co41,eo41⟩:=Kd.R_slice HO170.out
       (first|subst eo41|(injection eo41 with f1_ f2_ f3_;have f4_:=f1_.symm;have f5_:=f3_.symm;clear f1_ f2_ f3_;subst f4_;subst f5_))
       refine hK.out _ _ ⟨(blk_cell BK161.out 0).trans rfl,(blk_cell BK161.out 1).trans rfl,(blk_cell BK162.out 0).trans rfl,(blk_cell BK162.out 1).trans rfl⟩ (fun hHeld=>?_)
       clear hK K
       refine norm_ (a':=?_) ?_ ?_
       rotate_left
       · show Act.put _ (some 35) _=_
         simp only [Act.put,List.setIfInBounds_toArray,List.set_cons_zero,List.set_cons_succ,i64_w,i32_w]
         rfl
       refine pure_ (i:=7) (N:=some 36) (v:=?_) (a':=?_) #[true,true,true,true,true,true,true,true,false] rfl rfl (any_of HT_.out (by kernel_rfl)) (fun _ _ _ h=>h) (Or.inl ⟨by rfl,?_⟩) ?_ ?_
       rotate_left
       · intro w'
         go_simp
         with_reducible rfl
       rotate_left
       · simp only [Act.put,List.setIfInBounds_toArray,List.set_cons_zero,List.set_cons_succ,i64_w,i32_w]
         rfl
       refine one_ (i:=8) (N:=none) #[true,true,true,true,true,true,true,true,true] rfl rfl (one_of HT_.out (by kernel_rfl)) (by decide) (fun K hK=>?_)
       have hs42:w40.cell? ⟨gb163,0,none⟩=some (.bool false):=(blk_cell BK163.out 0).trans rfl
       have hfs42:=blk_frozen BK163.out 0
       have hns42_0:=NB161_163.out
       have hns42_1:=NB162_163.out
       have hms42_0:=NB163_161.out
       have hms42_1:=NB163_162.out
       have hs43:w40.cell? ⟨gb163,1,none⟩=some (.slice none 0 0):=(blk_cell BK163.out 1).trans rfl
       have hfs43:=blk_frozen BK163.out 1
       have hns43_0:=NB161_163.out
       have hns43_1:=NB162_163.out
       have hms43_0:=NB163_161.out
       have hms43_1:=NB163_162.out
       refine skip_ (w1:=?_) (by rfl) rfl ?_ ?_
       rotate_left
       · go_simp
         rfl
       refine hK.out _ _ ⟨((cell_far (p:=⟨gb163,_,none⟩) NB161_163.out _).trans (((cell_far (p:=⟨gb163,_,none⟩) NB161_163.out _).trans (hHeld.1)))),((cell_far (p:=⟨gb163,_,none⟩) NB161_163.out _).trans (((cell_far (p:=⟨gb163,_,none⟩) NB161_163.out _).trans (hHeld.2.1)))),((cell_far (p:=⟨gb163,_,none⟩) NB162_163.out _).trans (((cell_far (p:=⟨gb163,_,none⟩) NB162_163.out _).trans (hHeld.2.2.1)))),((cell_far (p:=⟨gb163,_,none⟩) NB162_163.out _).trans (((cell_far (p:=⟨gb163,_,none⟩) NB162_163.out _).trans (hHeld.2.2.2))))⟩ (fun hHeld=>?_)
       clear hK K
       refine done_ (done_of HT_.out (by kernel_rfl)) ?_
       try go_wp2
       refine bodyPost_ret (results_cell_row rfl _ _ gb163 73 #[.bool a0_0,.slice Ao41 t168.length co41] (0,0) _ rfl (by (with_reducible repeat (first|refine blk_drewN ?_ _|refine blk_drew ?_|refine blk_alloc ?_ _));refine blk_put (cs:=#[.bool a0_0,.slice none 0 0]) ?_ 1 _ rfl;(with_reducible repeat (first|refine blk_drewN ?_ _|refine blk_drew ?_|refine blk_alloc ?_ _));refine blk_put (cs:=#[.bool false,.slice none 0 0]) ?_ 0 _ rfl;(with_reducible repeat (first|refine blk_drewN ?_ _|refine blk_drew ?_|refine blk_alloc ?_ _));exact BK163.out) Try.underlying73 rfl (by kernel_rfl)) rfl ?_
       exact ⟨_,by first|rfl|(simp [errW_none,errW_some]<;>rfl)|(simp [*,errW_none,errW_some]<;>rfl),by (with_reducible repeat (first|apply Kd.R_alloc|apply Kd.R_drewN|apply Kd.R_drew));exact Kd.R_mono (Kd.R_far (p:=⟨gb163,1,none⟩) (Kd.R_far (p:=⟨gb163,0,none⟩) (Kd.R_types HO170.out BK163.out (by decide)) (fun _ hk=>hk.2) (.bool a0_0)) (fun _ hk=>hk.2) (.slice Ao41 t168.length co41)) (fun _ hk=>trivial),by repeat (with_reducible first|exact HB.out|apply below_alloc|apply pw_below_drewN|apply below_drew1|refine below_set ?_ GE161.out|refine below_set ?_ GE162.out|refine below_set ?_ GE163.out)⟩
     · rw [if_neg c29] at H
       have c29b0:decide (0<t167)=false:=decide_eq_false c29
       clear c29
       replace H:=Option.bind_eq_some_iff.mp H
       obtain ⟨t171,A440,H⟩:=H
       replace H:(some (a1_0,t171))=some (r1,r2):=H
       have A44:=Aside0.mk A440
       clear A440
       simp only [Option.some.injEq,Prod.mk.injEq] at H
       obtain ⟨rfl,rfl⟩:=H
       go_enter Try.func26,Try.ntmps26
       try go_wp2_with (first|((with_reducible refine gate_dst (N:=2) rfl ?_);refine box_event ?hg (N:=2) ?hd (cs:=#[.bool a0_0,.slice A0_1 l0_1.length c0_1]) (t:=73) ?hr ?_;(case hd=>rfl);(case hg=>rfl);(case hr=>first|(go_simp;done)|(go_simp;rfl));intro gb161 hg w45 hbox hb;have n0_:=Aside0.mk (below_step (by repeat (with_reducible first|exact HB.out|apply below_alloc|apply pw_below_drewN|apply below_drew1)) hb);have n1_:=Aside0.mk (hbox);have n2_:=Aside0.mk ((by rw [hg];exact (below_size (by repeat (with_reducible first|exact HB.out|apply below_alloc|apply pw_below_drewN|apply below_drew1))):w.heap.size≤gb161));have n3_:=Aside0.mk ((by rw [hg];exact (below_size (by repeat (with_reducible first|exact HB.out|apply below_alloc|apply pw_below_drewN|apply below_drew1))):w.heap.size≤gb161));clear HB;have HB:=n0_;have BK161:=n1_;have GW161:=n2_;have GE161:=n3_;clear n0_ n1_ n2_ n3_;clear hb hbox hg)|((with_reducible refine gate_dst (N:=3) rfl ?_);refine box_event ?hg (N:=3) ?hd (cs:=#[.bool a1_0,.slice A1_1 l1_1.length c1_1]) (t:=73) ?hr ?_;(case hd=>rfl);(case hg=>rfl);(case hr=>first|(go_simp;done)|(go_simp;rfl));intro gb162 hg w46 hbox hb;have n0_:=Aside0.mk (blk_below (g:=gb161) (o:=.cells #[.bool a0_0,.slice A0_1 l0_1.length c0_1] 73 (0,0)) (by (with_reducible repeat (first|refine blk_drewN ?_ _|refine blk_drew ?_|refine blk_alloc ?_ _));exact BK161.out) hb);have n1_:=Aside0.mk (below_step (by repeat (with_reducible first|exact HB.out|apply below_alloc|apply pw_below_drewN|apply below_drew1|refine below_set ?_ GE161.out)) hb);have n2_:=Aside0.mk (hbox);have n3_:=Aside0.mk ((by rw [hg];exact (below_size (by repeat (with_reducible first|exact HB.out|apply below_alloc|apply pw_below_drewN|apply below_drew1|refine below_set ?_ GE161.out))):w.heap.size≤gb162));have n4_:=Aside0.mk ((by rw [hg];exact (below_size (by repeat (with_reducible first|exact HB.out|apply below_alloc|apply pw_below_drewN|apply below_drew1|refine below_set ?_ GE161.out))):w.heap.size≤gb162));have n5_:=Aside0.mk ((by rw [hg];exact Nat.ne_of_lt (blk_lt (g:=gb161) (o:=.cells #[.bool a0_0,.slice A0_1 l0_1.length c0_1] 73 (0,0)) (by (with_reducible repeat (first|refine blk_drewN ?_ _|refine blk_drew ?_|refine blk_alloc ?_ _));exact BK161.out)):gb161≠gb162));have n6_:=Aside0.mk ((by rw [hg];exact Nat.ne_of_gt (blk_lt (g:=gb161) (o:=.cells #[.bool a0_0,.slice A0_1 l0_1.length c0_1] 73 (0,0)) (by (with_reducible repeat (first|refine blk_drewN ?_ _|refine blk_drew ?_|refine blk_alloc ?_ _));exact BK161.out)):gb162≠gb161));clear BK161;clear HB;have BK161:=n0_;have HB:=n1_;have BK162:=n2_;have GW162:=n3_;have GE162:=n4_;have NB161_162:=n5_;have NB162_161:=n6_;clear n0_ n1_ n2_ n3_ n4_ n5_ n6_;clear hb hbox hg)|((with_reducible refine gate_dst (N:=4) rfl ?_);refine box_event ?hg (N:=4) ?hd (cs:=#[.bool false,.slice none 0 0]) (t:=73) ?hr ?_;(case hd=>rfl);(case hg=>rfl);(case hr=>first|(go_simp;done)|(go_simp;rfl));intro gb163 hg w47 hbox hb;have n0_:=Aside0.mk (blk_below (g:=gb161) (o:=.cells #[.bool a0_0,.slice A0_1 l0_1.length c0_1] 73 (0,0)) (by (with_reducible repeat (first|refine blk_drewN ?_ _|refine blk_drew ?_|refine blk_alloc ?_ _));exact BK161.out) hb);have n1_:=Aside0.mk (blk_below (g:=gb162) (o:=.cells #[.bool a1_0,.slice A1_1 l1_1.length c1_1] 73 (0,0)) (by (with_reducible repeat (first|refine blk_drewN ?_ _|refine blk_drew ?_|refine blk_alloc ?_ _));exact BK162.out) hb);have n2_:=Aside0.mk (below_step (by repeat (with_reducible first|exact HB.out|apply below_alloc|apply pw_below_drewN|apply below_drew1|refine below_set ?_ GE161.out|refine below_set ?_ GE162.out)) hb);have n3_:=Aside0.mk (hbox);have n4_:=Aside0.mk ((by rw [hg];exact (below_size (by repeat (with_reducible first|exact HB.out|apply below_alloc|apply pw_below_drewN|apply below_drew1|refine below_set ?_ GE161.out|refine below_set ?_ GE162.out))):w.heap.size≤gb163));have n5_:=Aside0.mk ((by rw [hg];exact (below_size (by repeat (with_reducible first|exact HB.out|apply below_alloc|apply pw_below_drewN|apply below_drew1|refine below_set ?_ GE161.out|refine below_set ?_ GE162.out))):w.heap.size≤gb163));have n6_:=Aside0.mk ((by rw [hg];exact Nat.ne_of_lt (blk_lt (g:=gb161) (o:=.cells #[.bool a0_0,.slice A0_1 l0_1.length c0_1] 73 (0,0)) (by (with_reducible repeat (first|refine blk_drewN ?_ _|refine blk_drew ?_|refine blk_alloc ?_ _));exact BK161.out)):gb161≠gb163));have n7_:=Aside0.mk ((by rw [hg];exact Nat.ne_of_gt (blk_lt (g:=gb161) (o:=.cells #[.bool a0_0,.slice A0_1 l0_1.length c0_1] 73 (0,0)) (by (with_reducible repeat (first|refine blk_drewN ?_ _|refine blk_drew ?_|refine blk_alloc ?_ _));exact BK161.out)):gb163≠gb161));have n8_:=Aside0.mk ((by rw [hg];exact Nat.ne_of_lt (blk_lt (g:=gb162) (o:=.cells #[.bool a1_0,.slice A1_1 l1_1.length c1_1] 73 (0,0)) (by (with_reducible repeat (first|refine blk_drewN ?_ _|refine blk_drew ?_|refine blk_alloc ?_ _));exact BK162.out)):gb162≠gb163));have n9_:=Aside0.mk ((by rw [hg];exact Nat.ne_of_gt (blk_lt (g:=gb162) (o:=.cells #[.bool a1_0,.slice A1_1 l1_1.length c1_1] 73 (0,0)) (by (with_reducible repeat (first|refine blk_drewN ?_ _|refine blk_drew ?_|refine blk_alloc ?_ _));exact BK162.out)):gb163≠gb162));clear BK161;clear BK162;clear HB;have BK161:=n0_;have BK162:=n1_;have HB:=n2_;have BK163:=n3_;have GW163:=n4_;have GE163:=n5_;have NB161_163:=n6_;have NB163_161:=n7_;have NB162_163:=n8_;have NB163_162:=n9_;clear n0_ n1_ n2_ n3_ n4_ n5_ n6_ n7_ n8_ n9_;clear hb hbox hg;have hnb48:=NB161_162.out;have hnc48:=NB162_161.out;have hnb49:=NB161_163.out;have hnc49:=NB163_161.out;have hcz50_0:w47.cell? ⟨gb161,0,none⟩=some (.bool a0_0):=(blk_cell BK161.out 0).trans rfl;have hcz50_1:w47.cell? ⟨gb161,1,none⟩=some (.slice A0_1 l0_1.length c0_1):=(blk_cell BK161.out 1).trans rfl;have hfz50_0:=blk_frozen BK161.out 0;have hfz50_1:=blk_frozen BK161.out 1;have hnb51:=NB162_163.out;have hnc51:=NB163_162.out;have hcz52_0:w47.cell? ⟨gb162,0,none⟩=some (.bool a1_0):=(blk_cell BK162.out 0).trans rfl;have hcz52_1:w47.cell? ⟨gb162,1,none⟩=some (.slice A1_1 l1_1.length c1_1):=(blk_cell BK162.out 1).trans rfl;have hfz52_0:=blk_frozen BK162.out 0;have hfz52_1:=blk_frozen BK162.out 1)|((with_reducible refine gate_callee (f:=47) rfl ?_);refine goesL_ (some 23) rfl rfl Try.func47 (by kernel_rfl) rfl #[.slice A0_1 l0_1.length c0_1,.slice A1_1 l1_1.length c1_1] rfl (by (try simp only [List.map_toArray,List.map_cons,List.map_nil]);first|done|rfl|(simp only [List.length_drop,List.length_take];rfl)) ?_;(with_reducible refine (octroiref01_cmp.calls k _ _ l0_1 _ _ l1_1 t167 _ ?side1 ?side2 ?side3 ?side4 A18.out).mono ?_);(case side1=>repeat (first|exact (Kd.C_below HR0_1.out HB.out)|(with_reducible refine Kd.C_alloc ?_ _)|(with_reducible refine Kd.C_drewN ?_ _)|(with_reducible refine Kd.C_drew ?_)));(case side2=>exact HC0_1.out);(case side3=>repeat (first|exact (Kd.C_below HR1_1.out HB.out)|(with_reducible refine Kd.C_alloc ?_ _)|(with_reducible refine Kd.C_drewN ?_ _)|(with_reducible refine Kd.C_drew ?_)));(case side4=>exact HC1_1.out);rintro e w' ⟨rfl,⟨nd,rfl⟩⟩;refine ⟨_,rfl,?_⟩;(try (rw [drewN_self w47];generalize hq_:World.drewN w47 _=w47;have n0_:Aside0 (w47.heap[gb161]? = some (.cells #[.bool a0_0,.slice A0_1 l0_1.length c0_1] 73 (0,0))):=⟨by rw [← hq_];exact (by (with_reducible repeat (first|refine blk_drewN ?_ _|refine blk_drew ?_|refine blk_alloc ?_ _));exact BK161.out)⟩;have n1_:Aside0 (w47.heap[gb162]? = some (.cells #[.bool a1_0,.slice A1_1 l1_1.length c1_1] 73 (0,0))):=⟨by rw [← hq_];exact (by (with_reducible repeat (first|refine blk_drewN ?_ _|refine blk_drew ?_|refine blk_alloc ?_ _));exact BK162.out)⟩;have n2_:Aside0 (w47.heap[gb163]? = some (.cells #[.bool false,.slice none 0 0] 73 (0,0))):=⟨by rw [← hq_];exact (by (with_reducible repeat (first|refine blk_drewN ?_ _|refine blk_drew ?_|refine blk_alloc ?_ _));exact BK163.out)⟩;have n3_:Aside0 (Below w.heap.size w w47):=⟨by rw [← hq_];exact (by repeat (with_reducible first|exact HB.out|apply below_alloc|apply pw_below_drewN|apply below_drew1|refine below_set ?_ GE161.out|refine below_set ?_ GE162.out|refine below_set ?_ GE163.out))⟩;clear BK161 BK162 BK163 HB hq_;have BK161:=n0_;have BK162:=n1_;have BK163:=n2_;have HB:=n3_;clear n0_ n1_ n2_ n3_))))
       have n0_:=Aside0.mk (blk_drew BK161.out)
       have n1_:=Aside0.mk (blk_drew BK162.out)
       have n2_:=Aside0.mk (blk_drew BK163.out)
       have n3_:=Aside0.mk (below_drew1 HB.out)
       clear BK161
       clear BK162
       clear BK163
       clear HB
       have BK161:=n0_
       have BK162:=n1_
       have BK163:=n2_
       have HB:=n3_
       clear n0_ n1_ n2_ n3_
       refine start_ (n:=9) (S:=fun w'=>w'.cell? ⟨gb162,0,none⟩=some (.bool a1_0)∧w'.cell? ⟨gb162,1,none⟩=some (.slice A1_1 l1_1.length c1_1)∧w'.cell? ⟨gb161,0,none⟩=some (.bool a0_0)∧w'.cell? ⟨gb161,1,none⟩=some (.slice A0_1 l0_1.length c0_1)) (ds:=[]) #[false,false,false,false,false,false,false,false,false] (by kernel_rfl) rfl rfl ⟨(blk_cell BK162.out 0).trans rfl,(blk_cell BK162.out 1).trans rfl,(blk_cell BK161.out 0).trans rfl,(blk_cell BK161.out 1).trans rfl⟩ (fun hHeld=>?_);refine with_tabW octroiref01_Add.tab8 octroiref01_Add.bits8 (fun HT_ HW_=>?_)
       generalize w47.drew=w53 at BK161 BK162 BK163 HB hHeld ⊢
       refine pure_ (i:=0) (N:=some 37) (v:=?_) (a':=?_) #[true,false,false,false,false,false,false,false,false] rfl rfl (any_of HT_.out (by kernel_rfl)) (fun _ _ _ h=>h) (Or.inl ⟨by rfl,?_⟩) ?_ ?_
       rotate_left
       · intro w'
         go_simp
         with_reducible rfl
       rotate_left
       · simp only [Act.put,List.setIfInBounds_toArray,List.set_cons_zero,List.set_cons_succ,i64_w,i32_w]
         rfl
       refine pure_ (i:=2) (N:=some 39) (v:=?_) (a':=?_) #[true,false,true,false,false,false,false,false,false] rfl rfl (any_of HT_.out (by kernel_rfl)) (fun _ _ _ h=>h) (Or.inl ⟨by rfl,?_⟩) ?_ ?_
       rotate_left
       · intro w'
         go_simp
         with_reducible rfl
       rotate_left
       · simp only [Act.put,List.setIfInBounds_toArray,List.set_cons_zero,List.set_cons_succ,i64_w,i32_w]
         rfl
       refine pure_ (i:=4) (N:=some 41) (v:=?_) (a':=?_) #[true,false,true,false,true,false,false,false,false] rfl rfl (any_of HT_.out (by kernel_rfl)) (fun _ _ _ h=>h) (Or.inl ⟨by rfl,?_⟩) ?_ ?_
       rotate_left
       · intro w'
         go_simp
         with_reducible rfl
       rotate_left
       · simp only [Act.put,List.setIfInBounds_toArray,List.set_cons_zero,List.set_cons_succ,i64_w,i32_w]
         rfl
       refine take_ (i:=1) (N:=some 38) (v:=?_) (a':=?_) #[true,true,true,false,true,false,false,false,false] rfl rfl (take_ofW HT_.out HW_.out (by kernel_rfl)) (fun _ _ _ h=>h) (Or.inl ⟨by rfl,?_⟩) hHeld ?_ ?_
       rotate_left
       · rintro w' ⟨s0,s1,s2,s3⟩
         go_simp
         with_reducible rfl
       rotate_left
       · simp only [Act.put,List.setIfInBounds_toArray,List.set_cons_zero,List.set_cons_succ,i64_w,i32_w]
         rfl
       refine take_ (i:=3) (N:=some 40) (v:=?_) (a':=?_) #[true,true,true,true,true,false,false,false,false] rfl rfl (take_ofW HT_.out HW_.out (by kernel_rfl)) (fun _ _ _ h=>h) (Or.inl ⟨by rfl,?_⟩) hHeld ?_ ?_
       rotate_left
       · rintro w' ⟨s0,s1,s2,s3⟩
         go_simp
         with_reducible rfl
       rotate_left
       · simp only [Act.put,List.setIfInBounds_toArray,List.set_cons_zero,List.set_cons_succ,i64_w,i32_w]
         rfl
       refine take_ (i:=5) (N:=some 42) (v:=?_) (a':=?_) #[true,true,true,true,true,true,false,false,false] rfl rfl (take_ofW HT_.out HW_.out (by kernel_rfl)) (fun _ _ _ h=>h) (Or.inl ⟨by rfl,?_⟩) hHeld ?_ ?_
       rotate_left
       · rintro w' ⟨s0,s1,s2,s3⟩
         go_simp
         with_reducible rfl
       rotate_left
       · simp only [Act.put,List.setIfInBounds_toArray,List.set_cons_zero,List.set_cons_succ,i64_w,i32_w]
         rfl
       refine one_ (i:=6) (N:=some 43) #[true,true,true,true,true,true,true,false,false] rfl rfl (one_of HT_.out (by kernel_rfl)) (by decide) (fun K hK=>?_)
       refine goes_ Try.func48 (by kernel_rfl) rfl #[.slice A1_1 l1_1.length c1_1,.slice A0_1 l0_1.length c0_1] (by rfl) rfl rfl (by (try simp only [List.map_toArray,List.map_cons,List.map_nil]);first|done|rfl|(simp only [List.length_drop,List.length_take];rfl)) ?_
       with_reducible refine (octroiref01_minus.calls k _ _ l1_1 _ _ l0_1 t171 _ ?side1 ?side2 ?side3 ?side4 A44.out).mono ?_
       (case side1=>repeat (first|exact (Kd.C_below HR1_1.out HB.out)|(with_reducible refine Kd.C_alloc ?_ _)|(with_reducible refine Kd.C_drewN ?_ _)|(with_reducible refine Kd.C_drew ?_)))
       (case side2=>exact HC1_1.out)
       (case side3=>repeat (first|exact (Kd.C_below HR0_1.out HB.out)|(with_reducible refine Kd.C_alloc ?_ _)|(with_reducible refine Kd.C_drewN ?_ _)|(with_reducible refine Kd.C_drew ?_)))
       (case side4=>exact HC0_1.out)
       rintro e w54 ⟨v172,rfl,ho0,hb⟩
       refine ⟨_,rfl,?_⟩
       have n0_:=Aside0.mk (Kd.R_lower ho0 (below_size (by repeat (with_reducible first|exact HB.out|apply below_alloc|apply pw_below_drewN|apply below_drew1|refine below_set ?_ GE161.out|refine below_set ?_ GE162.out|refine below_set ?_ GE163.out))))
       have n1_:=Aside0.mk (blk_below (g:=gb161) (o:=.cells #[.bool a0_0,.slice A0_1 l0_1.length c0_1] 73 (0,0)) (by (with_reducible repeat (first|refine blk_drewN ?_ _|refine blk_drew ?_|refine blk_alloc ?_ _));exact BK161.out) hb)
       have n2_:=Aside0.mk (blk_below (g:=gb162) (o:=.cells #[.bool a1_0,.slice A1_1 l1_1.length c1_1] 73 (0,0)) (by (with_reducible repeat (first|refine blk_drewN ?_ _|refine blk_drew ?_|refine blk_alloc ?_ _));exact BK162.out) hb)
       have n3_:=Aside0.mk (blk_below (g:=gb163) (o:=.cells #[.bool false,.slice none 0 0] 73 (0,0)) (by (with_reducible repeat (first|refine blk_drewN ?_ _|refine blk_drew ?_|refine blk_alloc ?_ _));exact BK163.out) hb)
       have n4_:=Aside0.mk (below_step (by repeat (with_reducible first|exact HB.out|apply below_alloc|apply pw_below_drewN|apply below_drew1|refine below_set ?_ GE161.out|refine below_set ?_ GE162.out|refine below_set ?_ GE163.out)) hb)
       clear BK161
       clear BK162
       clear BK163
       clear HB
       have HO173:=n0_
       have BK161:=n1_
       have BK162:=n2_
       have BK163:=n3_
       have HB:=n4_
       clear n0_ n1_ n2_ n3_ n4_
       (try clear hb)
       (try clear hb2)
       (try clear hk)
       (try clear hi)
       (try clear ho0)
       obtain ⟨Ao55,co55,eo55⟩:=Kd.R_slice HO173.out
       (first|subst eo55|(injection eo55 with f1_ f2_ f3_;have f4_:=f1_.symm;have f5_:=f3_.symm;clear f1_ f2_ f3_;subst f4_;subst f5_))
       refine hK.out _ _ ⟨(blk_cell BK162.out 0).trans rfl,(blk_cell BK162.out 1).trans rfl,(blk_cell BK161.out 0).trans rfl,(blk_cell BK161.out 1).trans rfl⟩ (fun hHeld=>?_)
       clear hK K
       refine norm_ (a':=?_) ?_ ?_
       rotate_left
       · show Act.put _ (some 43) _=_
         simp only [Act.put,List.setIfInBounds_toArray,List.set_cons_zero,List.set_cons_succ,i64_w,i32_w]
         rfl
       refine pure_ (i:=7) (N:=some 44) (v:=?_) (a':=?_) #[true,true,true,true,true,true,true,true,false] rfl rfl (any_of HT_.out (by kernel_rfl)) (fun _ _ _ h=>h) (Or.inl ⟨by rfl,?_⟩) ?_ ?_
       rotate_left
       · intro w'
         go_simp
         with_reducible rfl
       rotate_left
       · simp only [Act.put,List.setIfInBounds_toArray,List.set_cons_zero,List.set_cons_succ,i64_w,i32_w]
         rfl
       refine one_ (i:=8) (N:=none) #[true,true,true,true,true,true,true,true,true] rfl rfl (one_of HT_.out (by kernel_rfl)) (by decide) (fun K hK=>?_)
       have hs56:w54.cell? ⟨gb163,0,none⟩=some (.bool false):=(blk_cell BK163.out 0).trans rfl
       have hfs56:=blk_frozen BK163.out 0
       have hns56_0:=NB161_163.out
       have hns56_1:=NB162_163.out
       have hms56_0:=NB163_161.out
       have hms56_1:=NB163_162.out
       have hs57:w54.cell? ⟨gb163,1,none⟩=some (.slice none 0 0):=(blk_cell BK163.out 1).trans rfl
       have hfs57:=blk_frozen BK163.out 1
       have hns57_0:=NB161_163.out
       have hns57_1:=NB162_163.out
       have hms57_0:=NB163_161.out
       have hms57_1:=NB163_162.out
       refine skip_ (w1:=?_) (by rfl) rfl ?_ ?_
       rotate_left
       · go_simp
         rfl
       refine hK.out _ _ ⟨((cell_far (p:=⟨gb163,_,none⟩) NB162_163.out _).trans (((cell_far (p:=⟨gb163,_,none⟩) NB162_163.out _).trans (hHeld.1)))),((cell_far (p:=⟨gb163,_,none⟩) NB162_163.out _).trans (((cell_far (p:=⟨gb163,_,none⟩) NB162_163.out _).trans (hHeld.2.1)))),((cell_far (p:=⟨gb163,_,none⟩) NB161_163.out _).trans (((cell_far (p:=⟨gb163,_,none⟩) NB161_163.out _).trans (hHeld.2.2.1)))),((cell_far (p:=⟨gb163,_,none⟩) NB161_163.out _).trans (((cell_far (p:=⟨gb163,_,none⟩) NB161_163.out _).trans (hHeld.2.2.2))))⟩ (fun hHeld=>?_)
       clear hK K
       refine done_ (done_of HT_.out (by kernel_rfl)) ?_
       try go_wp2
       refine bodyPost_ret (results_cell_row rfl _ _ gb163 73 #[.bool a1_0,.slice Ao55 t171.length co55] (0,0) _ rfl (by (with_reducible repeat (first|refine blk_drewN ?_ _|refine blk_drew ?_|refine blk_alloc ?_ _));refine blk_put (cs:=#[.bool a1_0,.slice none 0 0]) ?_ 1 _ rfl;(with_reducible repeat (first|refine blk_drewN ?_ _|refine blk_drew ?_|refine blk_alloc ?_ _));refine blk_put (cs:=#[.bool false,.slice none 0 0]) ?_ 0 _ rfl;(with_reducible repeat (first|refine blk_drewN ?_ _|refine blk_drew ?_|refine blk_alloc ?_ _));exact BK163.out) Try.underlying73 rfl (by kernel_rfl)) rfl ?_
       exact ⟨_,by first|rfl|(simp [errW_none,errW_some]<;>rfl)|(simp [*,errW_none,errW_some]<;>rfl),by (with_reducible repeat (first|apply Kd.R_alloc|apply Kd.R_drewN|apply Kd.R_drew));exact Kd.R_mono (Kd.R_far (p:=⟨gb163,1,none⟩) (Kd.R_far (p:=⟨gb163,0,none⟩) (Kd.R_types HO173.out BK163.out (by decide)) (fun _ hk=>hk.2) (.bool a1_0)) (fun _ hk=>hk.2) (.slice Ao55 t171.length co55)) (fun _ hk=>trivial),by repeat (with_reducible first|exact HB.out|apply below_alloc|apply pw_below_drewN|apply below_drew1|refine below_set ?_ GE161.out|refine below_set ?_ GE162.out|refine below_set ?_ GE163.out)⟩
def octroiref01_Of.l0:Nat→Int→List Int→Bool→Option (Bool × List Int)
 | 0,_,_,_=>none
 | k+1,x0,x3,x4=>if x0=0 then (some (x4,x3)) else (if (Int.tmod x0 2147483648)<0 then (if x3.length<17592186044416 then (octroiref01_Of.l0 k (wrap64 (Int.tdiv x0 2147483648)) (x3 ++ [wrap64 (-(Int.tmod x0 2147483648))]) x4) else (none)) else (if x3.length<17592186044416 then (octroiref01_Of.l0 k (wrap64 (Int.tdiv x0 2147483648)) (x3 ++ [Int.tmod x0 2147483648]) x4) else (none)))
def octroiref01_Of.f (k:Nat) (a0:Int):Option (Bool × List Int):=octroiref01_Of.l0 k a0 ([]:List Int) (decide (a0<0))
set_option maxHeartbeats 8000000 in
set_option maxRecDepth 100000 in
theorem octroiref01_Of.calls (k:Nat) (a0:Int) (r1:Bool) (r2:List Int) (w:World) (h:octroiref01_Of.f k a0=some (r1,r2)) :
 Calls Try.prog 27 #[.int .i64 a0] w fun e w'=>∃ v1_:Value,e = .returned (.agg #[.bool r1,v1_])∧Kd.R (Kd.int .i64) 3 w' w.heap.size (fun _=>True) v1_ r2∧Below w.heap.size w w':=by
 have hu73:=Try.underlying73
 have HB:=Aside0.mk (Below.refl w.heap.size w)
 have H:(octroiref01_Of.l0 k a0 ([]:List Int) (decide (a0<0)))=some (r1,r2):=h
 clear h
 have H':=Aside0.mk H
 clear H
 go_enter Try.func27,Try.ntmps27
 go_wp2_with (first|((with_reducible refine gate_dst (N:=2) rfl ?_);refine box_event ?hg (N:=2) ?hd (cs:=#[.bool false,.slice none 0 0]) (t:=73) ?hr ?_;(case hd=>rfl);(case hg=>rfl);(case hr=>first|(go_simp;done)|(go_simp;rfl));intro gb174 hg w2 hbox hb;have n0_:=Aside0.mk (below_step (by repeat (with_reducible first|exact HB.out|apply below_alloc|apply pw_below_drewN|apply below_drew1)) hb);have n1_:=Aside0.mk (hbox);have n2_:=Aside0.mk ((by rw [hg];exact (below_size (by repeat (with_reducible first|exact HB.out|apply below_alloc|apply pw_below_drewN|apply below_drew1))):w.heap.size≤gb174));have n3_:=Aside0.mk ((by rw [hg];exact (below_size (by repeat (with_reducible first|exact HB.out|apply below_alloc|apply pw_below_drewN|apply below_drew1))):w.heap.size≤gb174));clear HB;have HB:=n0_;have BK174:=n1_;have GW174:=n2_;have GE174:=n3_;clear n0_ n1_ n2_ n3_;clear hb hbox hg))
 go_loopg [0,3] k (fun kq v0 v3 w'=>∃ (x0_1:Int) (x3_1:List Int),v0 = .int .i64 x0_1∧Aside0 (octroiref01_Of.l0 kq x0_1 x3_1 (decide (a0<0))=some (r1,r2))∧Aside0 (kq≤k)∧Aside0 (Kd.R (Kd.int .i64) 3 w' w.heap.size (fun _=>True) v3 x3_1)∧Aside0 (w'.heap[gb174]? = some (.cells #[.bool false,(.slice none 0 0)] 73 (0,0)))∧Aside0 (Below w.heap.size w w'))
 case atStart=>exact ⟨(a0),(([]:List Int)),(by first|rfl|(simp;done)|(simp [*];done)),H',⟨Nat.le_refl _⟩,⟨by first|exact Kd.R_nil _ _ _ _ _|exact Kd.N_nil _ _ _ _ _|exact Kd.V_nil _ _ _ _ _|exact Kd.Q_nil _ _ _ _ _|exact Kd.S_nil _ _ _ _ _⟩,⟨by (with_reducible repeat (first|refine blk_drewN ?_ _|refine blk_drew ?_|refine blk_alloc ?_ _));exact BK174.out⟩,⟨by repeat (with_reducible first|exact HB.out|apply below_alloc|apply pw_below_drewN|apply below_drew1|refine below_set ?_ GE174.out)⟩⟩
 case round =>
  clear H'
  try clear c2
  try clear p2
  obtain ⟨x0_1,x3_1,rfl,HA,HK1,HO_3,BK174,HB⟩:=hrel
  cases gk with
  | zero=>exact absurd HA.out (by simp [octroiref01_Of.l0])
  | succ k1 =>
   have H:=HA.out
   clear HA
   simp only [octroiref01_Of.l0] at H
   by_cases c3:x0_1=0
   · rw [if_pos c3] at H
     have c3b0:(x0_1 == 0)=true:=beq_iff_eq.mpr c3
     have c3b1:(x0_1 != 0)=false:=bne_eq_false_iff_eq.mpr c3
     clear c3
     simp only [Option.some.injEq,Prod.mk.injEq] at H
     obtain ⟨rfl,rfl⟩:=H
     obtain ⟨Ao4,co4,eo4⟩:=Kd.R_slice HO_3.out
     subst eo4
     have hcz5_0:wr.cell? ⟨gb174,0,none⟩=some (.bool false):=(blk_cell BK174.out 0).trans rfl
     have hcz5_1:wr.cell? ⟨gb174,1,none⟩=some (.slice none 0 0):=(blk_cell BK174.out 1).trans rfl
     have hfz5_0:=blk_frozen BK174.out 0
     have hfz5_1:=blk_frozen BK174.out 1
     go_wp2
     refine bodyPost_ret (results_cell_row rfl _ _ gb174 73 #[.bool (decide (a0<0)),.slice Ao4 x3_1.length co4] (0,0) _ rfl (by (with_reducible repeat (first|refine blk_drewN ?_ _|refine blk_drew ?_|refine blk_alloc ?_ _));refine blk_put (cs:=#[.bool (decide (a0<0)),.slice none 0 0]) ?_ 1 _ rfl;(with_reducible repeat (first|refine blk_drewN ?_ _|refine blk_drew ?_|refine blk_alloc ?_ _));refine blk_put (cs:=#[.bool false,.slice none 0 0]) ?_ 0 _ rfl;(with_reducible repeat (first|refine blk_drewN ?_ _|refine blk_drew ?_|refine blk_alloc ?_ _));exact BK174.out) Try.underlying73 rfl (by kernel_rfl)) rfl ?_
     exact ⟨_,by first|rfl|(simp [errW_none,errW_some]<;>rfl)|(simp [*,errW_none,errW_some]<;>rfl),by (with_reducible repeat (first|apply Kd.R_alloc|apply Kd.R_drewN|apply Kd.R_drew));exact Kd.R_mono (Kd.R_far (p:=⟨gb174,1,none⟩) (Kd.R_far (p:=⟨gb174,0,none⟩) (Kd.R_types HO_3.out BK174.out (by decide)) (fun _ hk=>hk.2) (.bool (decide (a0<0)))) (fun _ hk=>hk.2) (.slice Ao4 x3_1.length co4)) (fun _ hk=>trivial),by repeat (with_reducible first|exact HB.out|apply below_alloc|apply pw_below_drewN|apply below_drew1|refine below_set ?_ GE174.out)⟩
   · rw [if_neg c3] at H
     have c3b0:(x0_1 == 0)=false:=beq_eq_false_iff_ne.mpr c3
     have c3b1:(x0_1 != 0)=true:=bne_iff_ne.mpr c3
     by_cases c6:(Int.tmod x0_1 2147483648)<0
     · rw [if_pos c6] at H
       have c6b0:decide ((Int.tmod x0_1 2147483648)<0)=true:=decide_eq_true c6
       clear c6
       by_cases c7:x3_1.length<17592186044416
       · rw [if_pos c7] at H
         have LMc7:=Aside0.mk c7
         clear c7
         obtain ⟨y175,hy175⟩:∃ y_:List Int,y_=(x3_1 ++ [wrap64 (-(Int.tmod x0_1 2147483648))]):=⟨_,rfl⟩
         replace H:(octroiref01_Of.l0 k1 (wrap64 (Int.tdiv x0_1 2147483648)) y175 (decide (a0<0)))=some (r1,r2):=by first|(rw [hy175];with_reducible exact H)|(have H2_:=(Option.bind_some _ _).symm.trans H;rw [hy175];with_reducible exact H2_)|(have H2_:=(Option.bind_some _ _).symm.trans H;with_reducible exact H2_)|with_reducible exact H|(rw [hy175];exact H)|exact H
         have Ny175:=Aside0.mk hy175
         clear hy175
         have H':=Aside0.mk H
         clear H
         go_wp2_with (first|((with_reducible refine gate_builtin (b:=.append) (xs:=#[.tmp 16,.tmp 18]) rfl ?_);at_builtin;refine Kd.R_append (Kd.int .i64) (w0:=w) w.heap.size rfl (.tmp 16) (.tmp 18) 50 3 (.int .i64 0) 8 rfl Try.underlying50 info3 rfl (by decide) (by omega) u3 x3_1 (wrap64 (-(Int.tmod x0_1 2147483648))) [.int .i64 (wrap64 (-(Int.tmod x0_1 2147483648)))] (fun _=>True) (fun _=>False) rfl rfl ?aP (fun _ hk=>hk.elim) ?aF ?aO ?aB ?aS ?aL ?_;(case aP=>exact rfl);(case aB=>exact (by repeat (with_reducible first|exact HB.out|apply below_alloc|apply pw_below_drewN|apply below_drew1|refine below_set ?_ GE174.out)));(case aF=>exact (fun _ _=>trivial));(case aO=>exact (by (with_reducible repeat (first|apply Kd.R_alloc|apply Kd.R_drewN|apply Kd.R_drew));exact HO_3.out));(case aS=>exact (below_size (by repeat (with_reducible first|exact HB.out|apply below_alloc|apply pw_below_drewN|apply below_drew1|refine below_set ?_ GE174.out))));(case aL=>have:=LMc7.out;omega);intro v176 w8 ho hb hg hat;rw [← Ny175.out] at ho;have n0_:=Aside0.mk (blk_grown (g:=gb174) (o:=.cells #[.bool false,.slice none 0 0] 73 (0,0)) (by (with_reducible repeat (first|refine blk_drewN ?_ _|refine blk_drew ?_|refine blk_alloc ?_ _));exact BK174.out) hg (Kd.R_ne HO_3.out BK174.out (by decide)));have n1_:=Aside0.mk (hb);have n2_:=Aside0.mk (ho);clear BK174;clear HB;clear HO_3;have BK174:=n0_;have HB:=n1_;have HO177:=n2_;clear n0_ n1_ n2_;clear ho hb hg hat))
         go_roundg k1
         case measure=>have:=HK1.out;omega
         case rel=>exact ⟨(wrap64 (Int.tdiv x0_1 2147483648)),(y175),(by first|rfl|(simp;done)|(simp [*];done)),H',⟨by have:=HK1.out;omega⟩,⟨by (with_reducible repeat (first|apply Kd.R_alloc|apply Kd.R_drewN|apply Kd.R_drew));exact HO177.out⟩,⟨by (with_reducible repeat (first|refine blk_drewN ?_ _|refine blk_drew ?_|refine blk_alloc ?_ _));exact BK174.out⟩,⟨by repeat (with_reducible first|exact HB.out|apply below_alloc|apply pw_below_drewN|apply below_drew1|refine below_set ?_ GE174.out)⟩⟩
       · rw [if_neg c7] at H
         exact absurd H (by simp)
     · rw [if_neg c6] at H
       have c6b0:decide ((Int.tmod x0_1 2147483648)<0)=false:=decide_eq_false c6
       clear c6
       by_cases c9:x3_1.length<17592186044416
       · rw [if_pos c9] at H
         have LMc9:=Aside0.mk c9
         clear c9
         obtain ⟨y178,hy178⟩:∃ y_:List Int,y_=(x3_1 ++ [Int.tmod x0_1 2147483648]):=⟨_,rfl⟩
         replace H:(octroiref01_Of.l0 k1 (wrap64 (Int.tdiv x0_1 2147483648)) y178 (decide (a0<0)))=some (r1,r2):=by first|(rw [hy178];with_reducible exact H)|(have H2_:=(Option.bind_some _ _).symm.trans H;rw [hy178];with_reducible exact H2_)|(have H2_:=(Option.bind_some _ _).symm.trans H;with_reducible exact H2_)|with_reducible exact H|(rw [hy178];exact H)|exact H
         have Ny178:=Aside0.mk hy178
         clear hy178
         have H':=Aside0.mk H
         clear H
         go_wp2_with (first|((with_reducible refine gate_builtin (b:=.append) (xs:=#[.tmp 16,.tmp 18]) rfl ?_);at_builtin;refine Kd.R_append (Kd.int .i64) (w0:=w) w.heap.size rfl (.tmp 16) (.tmp 18) 50 3 (.int .i64 0) 8 rfl Try.underlying50 info3 rfl (by decide) (by omega) u3 x3_1 (Int.tmod x0_1 2147483648) [.int .i64 (Int.tmod x0_1 2147483648)] (fun _=>True) (fun _=>False) rfl rfl ?aP (fun _ hk=>hk.elim) ?aF ?aO ?aB ?aS ?aL ?_;(case aP=>exact rfl);(case aB=>exact (by repeat (with_reducible first|exact HB.out|apply below_alloc|apply pw_below_drewN|apply below_drew1|refine below_set ?_ GE174.out)));(case aF=>exact (fun _ _=>trivial));(case aO=>exact (by (with_reducible repeat (first|apply Kd.R_alloc|apply Kd.R_drewN|apply Kd.R_drew));exact HO_3.out));(case aS=>exact (below_size (by repeat (with_reducible first|exact HB.out|apply below_alloc|apply pw_below_drewN|apply below_drew1|refine below_set ?_ GE174.out))));(case aL=>have:=LMc9.out;omega);intro v179 w10 ho hb hg hat;rw [← Ny178.out] at ho;have n0_:=Aside0.mk (blk_grown (g:=gb174) (o:=.cells #[.bool false,.slice none 0 0] 73 (0,0)) (by (with_reducible repeat (first|refine blk_drewN ?_ _|refine blk_drew ?_|refine blk_alloc ?_ _));exact BK174.out) hg (Kd.R_ne HO_3.out BK174.out (by decide)));have n1_:=Aside0.mk (hb);have n2_:=Aside0.mk (ho);clear BK174;clear HB;clear HO_3;have BK174:=n0_;have HB:=n1_;have HO180:=n2_;clear n0_ n1_ n2_;clear ho hb hg hat))
         go_roundg k1
         case measure=>have:=HK1.out;omega
         case rel=>exact ⟨(wrap64 (Int.tdiv x0_1 2147483648)),(y178),(by first|rfl|(simp;done)|(simp [*];done)),H',⟨by have:=HK1.out;omega⟩,⟨by (with_reducible repeat (first|apply Kd.R_alloc|apply Kd.R_drewN|apply Kd.R_drew));exact HO180.out⟩,⟨by (with_reducible repeat (first|refine blk_drewN ?_ _|refine blk_drew ?_|refine blk_alloc ?_ _));exact BK174.out⟩,⟨by repeat (with_reducible first|exact HB.out|apply below_alloc|apply pw_below_drewN|apply below_drew1|refine below_set ?_ GE174.out)⟩⟩
       · rw [if_neg c9] at H
         exact absurd H (by simp)
end Go.Proofs.Ytlfkfajodnkkhaa.Print
