/- A text of this seat. -/
import Derived.Test.YtlfkfajodnkkhaaX0
import Derived.Test.YtlfkfajodnkkhaaX2
namespace Go.Proofs.Ytlfkfajodnkkhaa.Print
open Go.RowKit Go.Proofs.YtlfkfajodnkkhaaW.PrintWords Go.Proofs.YtlfkfajodnkkhaaW.PrintLast Go.Proofs.YtlfkfajodnkkhaaW.PrintMore
attribute [local go_sem] max2_int min2_int max_two min_two max_three min_three max_four min_four   -- for this text's walks alone
set_option linter.unusedVariables false
set_option linter.unusedSimpArgs false
mutual
def octroiref01_Mul.l0:Nat→List Int→Int→Bool→List Int→Bool→List Int→Option (Bool × List Int)
 | 0,_,_,_,_,_,_=>none
 | k+1,x5,x6,x203000,x203001,x204000,x204001=>if x6<(x203001.length:Int) then (octroiref01_Mul.l1 k x5 x6 0 0 x203000 x203001 x204000 x204001) else ((octroiref01_clean.f k x5).bind fun t208=>(if (t208.length:Int)>0 then (some ((x203000 != x204000),t208)) else (some (false,t208))))
def octroiref01_Mul.l1:Nat→List Int→Int→Int→Int→Bool→List Int→Bool→List Int→Option (Bool × List Int)
 | 0,_,_,_,_,_,_,_,_=>none
 | k+1,x5,x6,x7,x8,x203000,x203001,x204000,x204001=>if x8<(x204001.length:Int) then (if 0≤(wrap64 (x6+x8)) then (if (wrap64 (x6+x8))<(x5.length:Int) then (if 0≤x6 then (if x6<(x203001.length:Int) then (if 0≤x8 then (octroiref01_Mul.l1 k (x5.set ((wrap64 (x6+x8)):Int).toNat (Int.tmod (wrap64 ((wrap64 (x7+(rd x5 (wrap64 (x6+x8)))))+(wrap64 ((rd x203001 x6) * (rd x204001 x8))))) 2147483648)) x6 (wrap64 (Int.tdiv (wrap64 ((wrap64 (x7+(rd x5 (wrap64 (x6+x8)))))+(wrap64 ((rd x203001 x6) * (rd x204001 x8))))) 2147483648)) (wrap64 (x8+1)) x203000 x203001 x204000 x204001) else (none)) else (none)) else (none)) else (none)) else (none)) else (if 0≤(wrap64 (x6+(x204001.length:Int))) then (if (wrap64 (x6+(x204001.length:Int)))<(x5.length:Int) then (octroiref01_Mul.l0 k (x5.set ((wrap64 (x6+(x204001.length:Int))):Int).toNat (wrap64 ((rd x5 (wrap64 (x6+(x204001.length:Int))))+x7))) (wrap64 (x6+1)) x203000 x203001 x204000 x204001) else (none)) else (none))
end
def octroiref01_Mul.f (k:Nat) (a0_0:Bool) (l0_1:List Int) (a1_0:Bool) (l1_1:List Int):Option (Bool × List Int):=if 0≤(wrap64 ((wrap64 ((l0_1.length:Int)+(l1_1.length:Int)))+1)) then (if (wrap64 ((wrap64 ((l0_1.length:Int)+(l1_1.length:Int)))+1):Int).toNat≤35184372088832 then (octroiref01_Mul.l0 k (List.replicate (wrap64 ((wrap64 ((l0_1.length:Int)+(l1_1.length:Int)))+1):Int).toNat 0) 0 a0_0 l0_1 a1_0 l1_1) else (none)) else (none)
def octroiref01_Mul.T9:Bool × List (List Nat × List Nat):=(true,[([],[]),([],[]),([],[]),([],[]),([2,3],[2,3]),([1,4],[1,4]),([5],[5]),([0,6],[0,6]),([],[]),([8],[8]),([],[]),([9,10],[9,10]),([11],[11]),([],[]),([13],[13]),([],[]),([14,15],[14,15]),([16],[16]),([12,17],[12,17]),([7,18],[7,18]),([19,0,1,2,3,4,5,6,7,8,9,10,11,12,13,14,15,16,17,18,19],[0,19])])
def octroiref01_Mul.B9:List Nat:=[0,0,0,0,12,30,62,127,0,256,0,1792,3840,0,8192,0,57344,122880,261888,524287,1048575]
theorem octroiref01_Mul.tab9:rtab .any (opsOf Try.f58 9)=octroiref01_Mul.T9:=by kernel_rfl
theorem octroiref01_Mul.bits9:waitsOk octroiref01_Mul.T9.2 octroiref01_Mul.B9=true:=by kernel_rfl
def octroiref01_Mul.T12:Bool × List (List Nat × List Nat):=(true,[([],[]),([],[]),([],[]),([2],[2]),([3],[3]),([1,4],[1,4]),([],[]),([],[]),([],[]),([8],[8]),([9],[9]),([7,10],[7,10]),([6,11],[6,11]),([12],[12]),([],[]),([13,14],[13,14]),([0,5,0,1,2,3,4,5,6,7,8,9,10,11,12,13,14,15],[0,5]),([16,15,0,1,2,3,4,5,6,7,8,9,10,11,12,13,14,15],[15,16])])
def octroiref01_Mul.B12:List Nat:=[0,0,0,4,12,30,0,0,0,256,768,1920,4032,8128,0,32704,65535,131071]
theorem octroiref01_Mul.tab12:rtab .any (opsOf Try.f58 12)=octroiref01_Mul.T12:=by kernel_rfl
theorem octroiref01_Mul.bits12:waitsOk octroiref01_Mul.T12.2 octroiref01_Mul.B12=true:=by kernel_rfl
set_option maxHeartbeats 8000000 in
set_option maxRecDepth 100000 in
theorem octroiref01_Mul.calls (k:Nat) (a0_0:Bool) (A0_1:Option Addr) (c0_1:Nat) (l0_1:List Int) (a1_0:Bool) (A1_1:Option Addr) (c1_1:Nat) (l1_1:List Int) (r1:Bool) (r2:List Int) (w:World) (hr0_1:Kd.C (Kd.int .i64) w A0_1 l0_1.length l0_1) (hc0_1:l0_1.length≤c0_1) (hr1_1:Kd.C (Kd.int .i64) w A1_1 l1_1.length l1_1) (hc1_1:l1_1.length≤c1_1) (h:octroiref01_Mul.f k a0_0 l0_1 a1_0 l1_1=some (r1,r2)) :
 Calls Try.prog 58 #[.agg #[.bool a0_0,.slice A0_1 l0_1.length c0_1],.agg #[.bool a1_0,.slice A1_1 l1_1.length c1_1]] w fun e w'=>∃ v1_:Value,e = .returned (.agg #[.bool r1,v1_])∧Kd.R (Kd.int .i64) 3 w' w.heap.size (fun _=>True) v1_ r2∧Below w.heap.size w w':=by
 have hu73:=Try.underlying73
 have HR0_1:=Aside0.mk hr0_1
 have HC0_1:=Aside0.mk hc0_1
 clear hr0_1 hc0_1
 have HR1_1:=Aside0.mk hr1_1
 have HC1_1:=Aside0.mk hc1_1
 clear hr1_1 hc1_1
 have HB:=Aside0.mk (Below.refl w.heap.size w)
 have H:(if 0≤(wrap64 ((wrap64 ((l0_1.length:Int)+(l1_1.length:Int)))+1)) then (if (wrap64 ((wrap64 ((l0_1.length:Int)+(l1_1.length:Int)))+1):Int).toNat≤35184372088832 then (octroiref01_Mul.l0 k (List.replicate (wrap64 ((wrap64 ((l0_1.length:Int)+(l1_1.length:Int)))+1):Int).toNat 0) 0 a0_0 l0_1 a1_0 l1_1) else (none)) else (none))=some (r1,r2):=h
 clear h
 obtain ⟨ji3,hji3⟩:∃ j_:Int,(wrap64 ((wrap64 ((l0_1.length:Int)+(l1_1.length:Int)))+1))=j_:=⟨_,rfl⟩
 replace H:(if 0≤(ji3) then (if (ji3:Int).toNat≤35184372088832 then (octroiref01_Mul.l0 k (List.replicate (ji3:Int).toNat 0) 0 a0_0 l0_1 a1_0 l1_1) else (none)) else (none))=some (r1,r2):=by first|(rw [hji3] at H;exact H)|(simp only [hji3] at H ⊢;exact H)
 have hji3w:(IntKind.i64.wrap ((wrap64 ((l0_1.length:Int)+(l1_1.length:Int)))+1))=ji3:=(i64_w _).trans hji3
 by_cases c4:0≤(ji3)
 · rw [if_pos c4] at H
   have c4b0:=eq_true c4
   have c4b1:decide (0≤(ji3))=true:=decide_eq_true c4
   clear c4
   by_cases c5:(ji3:Int).toNat≤35184372088832
   · rw [if_pos c5] at H
     have c5b0:=eq_true c5
     have c5b1:decide ((ji3:Int).toNat≤35184372088832)=true:=decide_eq_true c5
     clear c5
     obtain ⟨y205,hy205⟩:∃ y_:List Int,y_=(List.replicate (ji3:Int).toNat 0):=⟨_,rfl⟩
     replace H:(octroiref01_Mul.l0 k y205 0 a0_0 l0_1 a1_0 l1_1)=some (r1,r2):=by first|(rw [hy205];with_reducible exact H)|(have H2_:=(Option.bind_some _ _).symm.trans H;rw [hy205];with_reducible exact H2_)|(have H2_:=(Option.bind_some _ _).symm.trans H;with_reducible exact H2_)|with_reducible exact H|(rw [hy205];exact H)|exact H
     have Ny205:=Aside0.mk hy205
     clear hy205
     have H':=Aside0.mk H
     clear H
     go_enter Try.func58,Try.ntmps58
     go_wp2_with (first|((with_reducible refine gate_dst (N:=2) rfl ?_);refine box_event ?hg (N:=2) ?hd (cs:=#[.bool a0_0,.slice A0_1 l0_1.length c0_1]) (t:=73) ?hr ?_;(case hd=>rfl);(case hg=>rfl);(case hr=>first|(go_simp;done)|(go_simp;rfl));intro gb202 hg w6 hbox hb;have n0_:=Aside0.mk (below_step (by repeat (with_reducible first|exact HB.out|apply below_alloc|apply pw_below_drewN|apply below_drew1)) hb);have n1_:=Aside0.mk (hbox);have n2_:=Aside0.mk ((by rw [hg];exact (below_size (by repeat (with_reducible first|exact HB.out|apply below_alloc|apply pw_below_drewN|apply below_drew1))):w.heap.size≤gb202));have n3_:=Aside0.mk ((by rw [hg];exact (below_size (by repeat (with_reducible first|exact HB.out|apply below_alloc|apply pw_below_drewN|apply below_drew1))):w.heap.size≤gb202));clear HB;have HB:=n0_;have BK202:=n1_;have GW202:=n2_;have GE202:=n3_;clear n0_ n1_ n2_ n3_;clear hb hbox hg)|((with_reducible refine gate_dst (N:=3) rfl ?_);refine box_event ?hg (N:=3) ?hd (cs:=#[.bool a1_0,.slice A1_1 l1_1.length c1_1]) (t:=73) ?hr ?_;(case hd=>rfl);(case hg=>rfl);(case hr=>first|(go_simp;done)|(go_simp;rfl));intro gb203 hg w7 hbox hb;have n0_:=Aside0.mk (blk_below (g:=gb202) (o:=.cells #[.bool a0_0,.slice A0_1 l0_1.length c0_1] 73 (0,0)) (by (with_reducible repeat (first|refine blk_drewN ?_ _|refine blk_drew ?_|refine blk_alloc ?_ _));exact BK202.out) hb);have n1_:=Aside0.mk (below_step (by repeat (with_reducible first|exact HB.out|apply below_alloc|apply pw_below_drewN|apply below_drew1|refine below_set ?_ GE202.out)) hb);have n2_:=Aside0.mk (hbox);have n3_:=Aside0.mk ((by rw [hg];exact (below_size (by repeat (with_reducible first|exact HB.out|apply below_alloc|apply pw_below_drewN|apply below_drew1|refine below_set ?_ GE202.out))):w.heap.size≤gb203));have n4_:=Aside0.mk ((by rw [hg];exact (below_size (by repeat (with_reducible first|exact HB.out|apply below_alloc|apply pw_below_drewN|apply below_drew1|refine below_set ?_ GE202.out))):w.heap.size≤gb203));have n5_:=Aside0.mk ((by rw [hg];exact Nat.ne_of_lt (blk_lt (g:=gb202) (o:=.cells #[.bool a0_0,.slice A0_1 l0_1.length c0_1] 73 (0,0)) (by (with_reducible repeat (first|refine blk_drewN ?_ _|refine blk_drew ?_|refine blk_alloc ?_ _));exact BK202.out)):gb202≠gb203));have n6_:=Aside0.mk ((by rw [hg];exact Nat.ne_of_gt (blk_lt (g:=gb202) (o:=.cells #[.bool a0_0,.slice A0_1 l0_1.length c0_1] 73 (0,0)) (by (with_reducible repeat (first|refine blk_drewN ?_ _|refine blk_drew ?_|refine blk_alloc ?_ _));exact BK202.out)):gb203≠gb202));clear BK202;clear HB;have BK202:=n0_;have HB:=n1_;have BK203:=n2_;have GW203:=n3_;have GE203:=n4_;have NB202_203:=n5_;have NB203_202:=n6_;clear n0_ n1_ n2_ n3_ n4_ n5_ n6_;clear hb hbox hg)|((with_reducible refine gate_dst (N:=4) rfl ?_);refine box_event ?hg (N:=4) ?hd (cs:=#[.bool false,.slice none 0 0]) (t:=73) ?hr ?_;(case hd=>rfl);(case hg=>rfl);(case hr=>first|(go_simp;done)|(go_simp;rfl));intro gb204 hg w8 hbox hb;have n0_:=Aside0.mk (blk_below (g:=gb202) (o:=.cells #[.bool a0_0,.slice A0_1 l0_1.length c0_1] 73 (0,0)) (by (with_reducible repeat (first|refine blk_drewN ?_ _|refine blk_drew ?_|refine blk_alloc ?_ _));exact BK202.out) hb);have n1_:=Aside0.mk (blk_below (g:=gb203) (o:=.cells #[.bool a1_0,.slice A1_1 l1_1.length c1_1] 73 (0,0)) (by (with_reducible repeat (first|refine blk_drewN ?_ _|refine blk_drew ?_|refine blk_alloc ?_ _));exact BK203.out) hb);have n2_:=Aside0.mk (below_step (by repeat (with_reducible first|exact HB.out|apply below_alloc|apply pw_below_drewN|apply below_drew1|refine below_set ?_ GE202.out|refine below_set ?_ GE203.out)) hb);have n3_:=Aside0.mk (hbox);have n4_:=Aside0.mk ((by rw [hg];exact (below_size (by repeat (with_reducible first|exact HB.out|apply below_alloc|apply pw_below_drewN|apply below_drew1|refine below_set ?_ GE202.out|refine below_set ?_ GE203.out))):w.heap.size≤gb204));have n5_:=Aside0.mk ((by rw [hg];exact (below_size (by repeat (with_reducible first|exact HB.out|apply below_alloc|apply pw_below_drewN|apply below_drew1|refine below_set ?_ GE202.out|refine below_set ?_ GE203.out))):w.heap.size≤gb204));have n6_:=Aside0.mk ((by rw [hg];exact Nat.ne_of_lt (blk_lt (g:=gb202) (o:=.cells #[.bool a0_0,.slice A0_1 l0_1.length c0_1] 73 (0,0)) (by (with_reducible repeat (first|refine blk_drewN ?_ _|refine blk_drew ?_|refine blk_alloc ?_ _));exact BK202.out)):gb202≠gb204));have n7_:=Aside0.mk ((by rw [hg];exact Nat.ne_of_gt (blk_lt (g:=gb202) (o:=.cells #[.bool a0_0,.slice A0_1 l0_1.length c0_1] 73 (0,0)) (by (with_reducible repeat (first|refine blk_drewN ?_ _|refine blk_drew ?_|refine blk_alloc ?_ _));exact BK202.out)):gb204≠gb202));have n8_:=Aside0.mk ((by rw [hg];exact Nat.ne_of_lt (blk_lt (g:=gb203) (o:=.cells #[.bool a1_0,.slice A1_1 l1_1.length c1_1] 73 (0,0)) (by (with_reducible repeat (first|refine blk_drewN ?_ _|refine blk_drew ?_|refine blk_alloc ?_ _));exact BK203.out)):gb203≠gb204));have n9_:=Aside0.mk ((by rw [hg];exact Nat.ne_of_gt (blk_lt (g:=gb203) (o:=.cells #[.bool a1_0,.slice A1_1 l1_1.length c1_1] 73 (0,0)) (by (with_reducible repeat (first|refine blk_drewN ?_ _|refine blk_drew ?_|refine blk_alloc ?_ _));exact BK203.out)):gb204≠gb203));clear BK202;clear BK203;clear HB;have BK202:=n0_;have BK203:=n1_;have HB:=n2_;have BK204:=n3_;have GW204:=n4_;have GE204:=n5_;have NB202_204:=n6_;have NB204_202:=n7_;have NB203_204:=n8_;have NB204_203:=n9_;clear n0_ n1_ n2_ n3_ n4_ n5_ n6_ n7_ n8_ n9_;clear hb hbox hg;have hnb9:=NB202_203.out;have hnc9:=NB203_202.out;have hnb10:=NB202_204.out;have hnc10:=NB204_202.out;have hcz11_0:w8.cell? ⟨gb202,0,none⟩=some (.bool a0_0):=(blk_cell BK202.out 0).trans rfl;have hcz11_1:w8.cell? ⟨gb202,1,none⟩=some (.slice A0_1 l0_1.length c0_1):=(blk_cell BK202.out 1).trans rfl;have hfz11_0:=blk_frozen BK202.out 0;have hfz11_1:=blk_frozen BK202.out 1;have hnb12:=NB203_204.out;have hnc12:=NB204_203.out;have hcz13_0:w8.cell? ⟨gb203,0,none⟩=some (.bool a1_0):=(blk_cell BK203.out 0).trans rfl;have hcz13_1:w8.cell? ⟨gb203,1,none⟩=some (.slice A1_1 l1_1.length c1_1):=(blk_cell BK203.out 1).trans rfl;have hfz13_0:=blk_frozen BK203.out 0;have hfz13_1:=blk_frozen BK203.out 1)|((with_reducible refine gate_dst (N:=17) rfl ?_);refine Kd.R_make (Kd.int .i64) _ 3 rfl (N:=17) rfl 50 _ _ rfl ji3 rfl rfl Try.underlying50 (.int .i64 0) 8 info3 rfl (by decide) (by omega) 0 (ok:=fun _=>True) (okp:=fun _=>True) rfl (fun _ hk=>hk) trivial (of_decide_eq_true (by assumption)) (Nat.le_trans (Nat.mul_le_mul_right _ (of_decide_eq_true (by assumption):ji3.toNat≤35184372088832)) (by omega)) (Below.refl _ _) (Nat.le_refl _) ?_;intro v206 w14 ho15 hb hg_ hnew_;clear hg_ hnew_;(first|rw [← Ny205.out] at ho15|(simp only [Int.reduceToNat] at ho15;rw [← Ny205.out] at ho15));have n0_:=Aside0.mk (Kd.R_lower ho15 (below_size (by repeat (with_reducible first|exact HB.out|apply below_alloc|apply pw_below_drewN|apply below_drew1|refine below_set ?_ GE202.out|refine below_set ?_ GE203.out|refine below_set ?_ GE204.out))));have n1_:=Aside0.mk (blk_below (g:=gb202) (o:=.cells #[.bool a0_0,.slice A0_1 l0_1.length c0_1] 73 (0,0)) (by (with_reducible repeat (first|refine blk_drewN ?_ _|refine blk_drew ?_|refine blk_alloc ?_ _));exact BK202.out) hb);have n2_:=Aside0.mk (blk_below (g:=gb203) (o:=.cells #[.bool a1_0,.slice A1_1 l1_1.length c1_1] 73 (0,0)) (by (with_reducible repeat (first|refine blk_drewN ?_ _|refine blk_drew ?_|refine blk_alloc ?_ _));exact BK203.out) hb);have n3_:=Aside0.mk (blk_below (g:=gb204) (o:=.cells #[.bool false,.slice none 0 0] 73 (0,0)) (by (with_reducible repeat (first|refine blk_drewN ?_ _|refine blk_drew ?_|refine blk_alloc ?_ _));exact BK204.out) hb);have n4_:=Aside0.mk (below_step (by repeat (with_reducible first|exact HB.out|apply below_alloc|apply pw_below_drewN|apply below_drew1|refine below_set ?_ GE202.out|refine below_set ?_ GE203.out|refine below_set ?_ GE204.out)) hb);clear BK202;clear BK203;clear BK204;clear HB;have HO207:=n0_;have BK202:=n1_;have BK203:=n2_;have BK204:=n3_;have HB:=n4_;clear n0_ n1_ n2_ n3_ n4_;clear hb ho15))
     go_loopg [6] k (fun kq v6 w'=>∃ (x5_1:List Int) (x6_1:Int),v6 = .int .i64 x6_1∧Aside0 (octroiref01_Mul.l0 kq x5_1 x6_1 a0_0 l0_1 a1_0 l1_1=some (r1,r2))∧Aside0 (kq≤k)∧Aside0 (Kd.R (Kd.int .i64) 3 w' w.heap.size (fun _=>True) v206 x5_1)∧Aside0 (w'.heap[gb202]? = some (.cells #[.bool a0_0,(.slice A0_1 l0_1.length c0_1)] 73 (0,0)))∧Aside0 (w'.heap[gb203]? = some (.cells #[.bool a1_0,(.slice A1_1 l1_1.length c1_1)] 73 (0,0)))∧Aside0 (w'.heap[gb204]? = some (.cells #[.bool false,(.slice none 0 0)] 73 (0,0)))∧Aside0 (Below w.heap.size w w'))
     case atStart=>exact ⟨(y205),(0),(by first|rfl|(simp;done)|(simp [*];done)),H',⟨Nat.le_refl _⟩,⟨by (with_reducible repeat (first|apply Kd.R_alloc|apply Kd.R_drewN|apply Kd.R_drew));exact HO207.out⟩,⟨by (with_reducible repeat (first|refine blk_drewN ?_ _|refine blk_drew ?_|refine blk_alloc ?_ _));exact BK202.out⟩,⟨by (with_reducible repeat (first|refine blk_drewN ?_ _|refine blk_drew ?_|refine blk_alloc ?_ _));exact BK203.out⟩,⟨by (with_reducible repeat (first|refine blk_drewN ?_ _|refine blk_drew ?_|refine blk_alloc ?_ _));exact BK204.out⟩,⟨by repeat (with_reducible first|exact HB.out|apply below_alloc|apply pw_below_drewN|apply below_drew1|refine below_set ?_ GE202.out|refine below_set ?_ GE203.out|refine below_set ?_ GE204.out)⟩⟩
     case round =>
      clear H'
      try clear c1
      try clear p2
      try clear c4
      try clear c4b0
      try clear c4b1
      try clear c5
      try clear c5b0
      try clear c5b1
      try clear p6
      try clear c9
      try clear c10
      try clear c12
      try clear hcz11_0
      try clear hcz11_1
      try clear hcz13_0
      try clear hcz13_1
      try clear hfz11_0
      try clear hfz11_1
      try clear hfz13_0
      try clear hfz13_1
      obtain ⟨x5_1,x6_1,rfl,HA,HK1,HO_5,BK202,BK203,BK204,HB⟩:=hrel
      cases gk with
      | zero=>exact absurd HA.out (by simp [octroiref01_Mul.l0])
      | succ k1 =>
       have H:=HA.out
       clear HA
       simp only [octroiref01_Mul.l0] at H
       by_cases c16:x6_1<(l0_1.length:Int)
       · rw [if_pos c16] at H
         have c16b0:decide (x6_1<(l0_1.length:Int))=true:=decide_eq_true c16
         clear c16
         have H':=Aside0.mk H
         clear H
         have hnb17:=NB202_203.out
         have hnc17:=NB203_202.out
         have hnb18:=NB202_204.out
         have hnc18:=NB204_202.out
         have hcz19_0:wr.cell? ⟨gb202,0,none⟩=some (.bool a0_0):=(blk_cell BK202.out 0).trans rfl
         have hcz19_1:wr.cell? ⟨gb202,1,none⟩=some (.slice A0_1 l0_1.length c0_1):=(blk_cell BK202.out 1).trans rfl
         have hfz19_0:=blk_frozen BK202.out 0
         have hfz19_1:=blk_frozen BK202.out 1
         go_wp2
         go_loopg [7,8] k1 (fun kq v7 v8 w'=>∃ (x5_2:List Int) (x7_2:Int) (x8_2:Int),v7 = .int .i64 x7_2∧v8 = .int .i64 x8_2∧Aside0 (octroiref01_Mul.l1 kq x5_2 x6_1 x7_2 x8_2 a0_0 l0_1 a1_0 l1_1=some (r1,r2))∧Aside0 (kq≤k1)∧Aside0 (Kd.R (Kd.int .i64) 3 w' w.heap.size (fun _=>True) v206 x5_2)∧Aside0 (w'.heap[gb202]? = some (.cells #[.bool a0_0,(.slice A0_1 l0_1.length c0_1)] 73 (0,0)))∧Aside0 (w'.heap[gb203]? = some (.cells #[.bool a1_0,(.slice A1_1 l1_1.length c1_1)] 73 (0,0)))∧Aside0 (w'.heap[gb204]? = some (.cells #[.bool false,(.slice none 0 0)] 73 (0,0)))∧Aside0 (Below w.heap.size w w'))
         case atStart=>exact ⟨(x5_1),(0),(0),(by first|rfl|(simp;done)|(simp [*];done)),(by first|rfl|(simp;done)|(simp [*];done)),H',⟨Nat.le_refl _⟩,⟨by (with_reducible repeat (first|apply Kd.R_alloc|apply Kd.R_drewN|apply Kd.R_drew));exact HO_5.out⟩,⟨by (with_reducible repeat (first|refine blk_drewN ?_ _|refine blk_drew ?_|refine blk_alloc ?_ _));exact BK202.out⟩,⟨by (with_reducible repeat (first|refine blk_drewN ?_ _|refine blk_drew ?_|refine blk_alloc ?_ _));exact BK203.out⟩,⟨by (with_reducible repeat (first|refine blk_drewN ?_ _|refine blk_drew ?_|refine blk_alloc ?_ _));exact BK204.out⟩,⟨by repeat (with_reducible first|exact HB.out|apply below_alloc|apply pw_below_drewN|apply below_drew1|refine below_set ?_ GE202.out|refine below_set ?_ GE203.out|refine below_set ?_ GE204.out)⟩⟩
         case round =>
          clear H'
          try clear c1
          try clear p2
          try clear c4
          try clear c4b0
          try clear c4b1
          try clear c5
          try clear c5b0
          try clear c5b1
          try clear p6
          try clear c9
          try clear c10
          try clear c12
          try clear c16
          try clear c16b0
          try clear c17
          try clear c18
          try clear hcz11_0
          try clear hcz11_1
          try clear hcz13_0
          try clear hcz13_1
          try clear hcz19_0
          try clear hcz19_1
          try clear hfz11_0
          try clear hfz11_1
          try clear hfz13_0
          try clear hfz13_1
          try clear hfz19_0
          try clear hfz19_1
          try clear p2
          try clear p6
          obtain ⟨x5_2,x7_2,x8_2,rfl,rfl,HA,HK2,HO_5,BK202,BK203,BK204,HB⟩:=hrel
          cases gk with
          | zero=>exact absurd HA.out (by simp [octroiref01_Mul.l1])
          | succ k2 =>
           have H:=HA.out
           clear HA
           simp only [octroiref01_Mul.l1] at H
           by_cases c20:x8_2<(l1_1.length:Int)
           · rw [if_pos c20] at H
             have c20b0:decide (x8_2<(l1_1.length:Int))=true:=decide_eq_true c20
             clear c20
             obtain ⟨ji21,hji21⟩:∃ j_:Int,(wrap64 (x6_1+x8_2))=j_:=⟨_,rfl⟩
             replace H:(if 0≤(ji21) then (if (ji21)<(x5_2.length:Int) then (if 0≤x6_1 then (if x6_1<(l0_1.length:Int) then (if 0≤x8_2 then (octroiref01_Mul.l1 k2 (x5_2.set ((ji21):Int).toNat (Int.tmod (wrap64 ((wrap64 (x7_2+(rd x5_2 (ji21))))+(wrap64 ((rd l0_1 x6_1) * (rd l1_1 x8_2))))) 2147483648)) x6_1 (wrap64 (Int.tdiv (wrap64 ((wrap64 (x7_2+(rd x5_2 (ji21))))+(wrap64 ((rd l0_1 x6_1) * (rd l1_1 x8_2))))) 2147483648)) (wrap64 (x8_2+1)) a0_0 l0_1 a1_0 l1_1) else (none)) else (none)) else (none)) else (none)) else (none))=some (r1,r2):=by first|(rw [hji21] at H;exact H)|(simp only [hji21] at H ⊢;exact H)
             have hji21w:(IntKind.i64.wrap (x6_1+x8_2))=ji21:=(i64_w _).trans hji21
             by_cases c22:0≤(ji21)
             · rw [if_pos c22] at H
               have c22b0:decide (0≤(ji21))=true:=decide_eq_true c22
               clear c22
               by_cases c23:(ji21)<(x5_2.length:Int)
               · rw [if_pos c23] at H
                 have c23b0:decide ((ji21)<(x5_2.length:Int))=true:=decide_eq_true c23
                 clear c23
                 by_cases c24:0≤x6_1
                 · rw [if_pos c24] at H
                   have c24b0:decide (0≤x6_1)=true:=decide_eq_true c24
                   clear c24
                   by_cases c25:x6_1<(l0_1.length:Int)
                   · rw [if_pos c25] at H
                     have c25b0:decide (x6_1<(l0_1.length:Int))=true:=decide_eq_true c25
                     clear c25
                     by_cases c26:0≤x8_2
                     · rw [if_pos c26] at H
                       have c26b0:decide (0≤x8_2)=true:=decide_eq_true c26
                       clear c26
                       obtain ⟨y214,hy214⟩:∃ y_:List Int,y_=(x5_2.set ((ji21):Int).toNat (Int.tmod (wrap64 ((wrap64 (x7_2+(rd x5_2 (ji21))))+(wrap64 ((rd l0_1 x6_1) * (rd l1_1 x8_2))))) 2147483648)):=⟨_,rfl⟩
                       replace H:(octroiref01_Mul.l1 k2 y214 x6_1 (wrap64 (Int.tdiv (wrap64 ((wrap64 (x7_2+(rd x5_2 (ji21))))+(wrap64 ((rd l0_1 x6_1) * (rd l1_1 x8_2))))) 2147483648)) (wrap64 (x8_2+1)) a0_0 l0_1 a1_0 l1_1)=some (r1,r2):=by first|(rw [hy214];with_reducible exact H)|(have H2_:=(Option.bind_some _ _).symm.trans H;rw [hy214];with_reducible exact H2_)|(have H2_:=(Option.bind_some _ _).symm.trans H;with_reducible exact H2_)|with_reducible exact H|(rw [hy214];exact H)|exact H
                       have Ny214:=Aside0.mk hy214
                       clear hy214
                       have H':=Aside0.mk H
                       clear H
                       have hnb28:=NB203_202.out
                       have hnc28:=NB202_203.out
                       have hnb29:=NB203_204.out
                       have hnc29:=NB204_203.out
                       have hcz30_0:wr.cell? ⟨gb203,0,none⟩=some (.bool a1_0):=(blk_cell BK203.out 0).trans rfl
                       have hcz30_1:wr.cell? ⟨gb203,1,none⟩=some (.slice A1_1 l1_1.length c1_1):=(blk_cell BK203.out 1).trans rfl
                       have hfz30_0:=blk_frozen BK203.out 0
                       have hfz30_1:=blk_frozen BK203.out 1
                       try go_wp2
                       have n0_:=Aside0.mk (Kd.R_drew HO_5.out)
                       have n1_:=Aside0.mk (blk_drew BK202.out)
                       have n2_:=Aside0.mk (blk_drew BK203.out)
                       have n3_:=Aside0.mk (blk_drew BK204.out)
                       have n4_:=Aside0.mk (below_drew1 HB.out)
                       clear HO_5
                       clear BK202
                       clear BK203
                       clear BK204
                       clear HB
                       have HO_5:=n0_
                       have BK202:=n1_
                       have BK203:=n2_
                       have BK204:=n3_
                       have HB:=n4_
                       clear n0_ n1_ n2_ n3_ n4_
                       obtain ⟨Ao32,co32,eo32⟩:=Kd.R_slice HO_5.out
                       (first|subst eo32|(injection eo32 with f1_ f2_ f3_;have f4_:=f1_.symm;have f5_:=f3_.symm;clear f1_ f2_ f3_;subst f4_;subst f5_))
                       have p211:0≤((ji21):Int):=of_decide_eq_true (by assumption)
                       have q211:(ji21)<(x5_2.length:Int):=of_decide_eq_true (by assumption)
                       obtain ⟨ad211,e211,hx211_0⟩:=Kd.at_int (Kd.R_reads' HO_5.out).2.2 (ji21) p211 q211
                       cases e211
                       replace p211:=eq_true p211
                       replace q211:=eq_true q211
                       have p212:0≤(x6_1:Int):=of_decide_eq_true (by assumption)
                       have q212:x6_1<(l0_1.length:Int):=of_decide_eq_true (by assumption)
                       obtain ⟨ad212,e212,hx212_0⟩:=Kd.at_int HR0_1.out x6_1 p212 q212
                       have hw212_0:=hx212_0
                       cases e212
                       replace hx212_0:=(HB.out.cell (World.block_lt_of_cell? w _ hx212_0)).trans hx212_0
                       replace p212:=eq_true p212
                       replace q212:=eq_true q212
                       have p213:0≤(x8_2:Int):=of_decide_eq_true (by assumption)
                       have q213:x8_2<(l1_1.length:Int):=of_decide_eq_true (by assumption)
                       obtain ⟨ad213,e213,hx213_0⟩:=Kd.at_int HR1_1.out x8_2 p213 q213
                       have hw213_0:=hx213_0
                       cases e213
                       replace hx213_0:=(HB.out.cell (World.block_lt_of_cell? w _ hx213_0)).trans hx213_0
                       replace p213:=eq_true p213
                       replace q213:=eq_true q213
                       refine start_ (n:=21) (S:=fun w'=>w'.cell? ⟨gb202,0,none⟩=some (.bool a0_0)∧w'.cell? ⟨gb202,1,none⟩=some (.slice (some ad212) l0_1.length c0_1)∧w'.cell? ⟨gb203,0,none⟩=some (.bool a1_0)∧w'.cell? ⟨gb203,1,none⟩=some (.slice (some ad213) l1_1.length c1_1)∧w'.cell? (ad211.add ((ji21)).toNat)=some (.int .i64 (rd x5_2 (ji21)))∧w'.cell? (ad212.add (x6_1).toNat)=some (.int .i64 (rd l0_1 x6_1))∧w'.cell? (ad213.add (x8_2).toNat)=some (.int .i64 (rd l1_1 x8_2))) (ds:=[]) #[false,false,false,false,false,false,false,false,false,false,false,false,false,false,false,false,false,false,false,false,false] (by kernel_rfl) rfl rfl ⟨(blk_cell BK202.out 0).trans rfl,(blk_cell BK202.out 1).trans rfl,(blk_cell BK203.out 0).trans rfl,(blk_cell BK203.out 1).trans rfl,hx211_0,((HB.out.cell (World.block_lt_of_cell? w _ hw212_0)).trans hw212_0),((HB.out.cell (World.block_lt_of_cell? w _ hw213_0)).trans hw213_0)⟩ (fun hHeld=>?_);refine with_tabW octroiref01_Mul.tab9 octroiref01_Mul.bits9 (fun HT_ HW_=>?_)
                       generalize wr.drew=w31 at HO_5 BK202 BK203 BK204 HB hx211_0 hx212_0 hx213_0 hHeld ⊢
                       refine pure_ (i:=0) (N:=some 32) (v:=?_) (a':=?_) #[true,false,false,false,false,false,false,false,false,false,false,false,false,false,false,false,false,false,false,false,false] rfl rfl (any_of HT_.out (by kernel_rfl)) (fun _ _ _ h=>h) (Or.inl ⟨by rfl,?_⟩) ?_ ?_
                       rotate_left
                       · intro w'
                         go_simp
                         with_reducible rfl
                       rotate_left
                       · simp only [Act.put,List.setIfInBounds_toArray,List.set_cons_zero,List.set_cons_succ,i64_w,i32_w]
                         rfl
                       refine pure_ (i:=1) (N:=some 33) (v:=?_) (a':=?_) #[true,true,false,false,false,false,false,false,false,false,false,false,false,false,false,false,false,false,false,false,false] rfl rfl (any_of HT_.out (by kernel_rfl)) (fun _ _ _ h=>h) (Or.inl ⟨by rfl,?_⟩) ?_ ?_
                       rotate_left
                       · intro w'
                         go_simp
                         with_reducible rfl
                       rotate_left
                       · simp only [Act.put,List.setIfInBounds_toArray,List.set_cons_zero,List.set_cons_succ,i64_w,i32_w]
                         rfl
                       refine pure_ (i:=2) (N:=some 34) (v:=?_) (a':=?_) #[true,true,true,false,false,false,false,false,false,false,false,false,false,false,false,false,false,false,false,false,false] rfl rfl (any_of HT_.out (by kernel_rfl)) (fun _ _ _ h=>h) (Or.inl ⟨by rfl,?_⟩) ?_ ?_
                       rotate_left
                       · intro w'
                         go_simp
                         with_reducible rfl
                       rotate_left
                       · simp only [Act.put,List.setIfInBounds_toArray,List.set_cons_zero,List.set_cons_succ,i64_w,i32_w]
                         rfl
                       refine pure_ (i:=3) (N:=some 35) (v:=?_) (a':=?_) #[true,true,true,true,false,false,false,false,false,false,false,false,false,false,false,false,false,false,false,false,false] rfl rfl (any_of HT_.out (by kernel_rfl)) (fun _ _ _ h=>h) (Or.inl ⟨by rfl,?_⟩) ?_ ?_
                       rotate_left
                       · intro w'
                         go_simp
                         with_reducible rfl
                       rotate_left
                       · simp only [Act.put,List.setIfInBounds_toArray,List.set_cons_zero,List.set_cons_succ,i64_w,i32_w]
                         rfl
                       refine pure_ (i:=4) (N:=some 36) (v:=?_) (a':=?_) #[true,true,true,true,true,false,false,false,false,false,false,false,false,false,false,false,false,false,false,false,false] rfl rfl (any_of HT_.out (by kernel_rfl)) (fun _ _ _ h=>h) (Or.inl ⟨by rfl,?_⟩) ?_ ?_
                       rotate_left
                       · intro w'
                         go_simp
                         with_reducible rfl
                       rotate_left
                       · simp only [Act.put,List.setIfInBounds_toArray,List.set_cons_zero,List.set_cons_succ,i64_w,i32_w]
                         rfl
                       refine pure_ (i:=5) (N:=some 37) (v:=?_) (a':=?_) #[true,true,true,true,true,true,false,false,false,false,false,false,false,false,false,false,false,false,false,false,false] rfl rfl (any_of HT_.out (by kernel_rfl)) (fun _ _ _ h=>h) (Or.inl ⟨by rfl,?_⟩) ?_ ?_
                       rotate_left
                       · intro w'
                         go_simp
                         with_reducible rfl
                       rotate_left
                       · simp only [Act.put,List.setIfInBounds_toArray,List.set_cons_zero,List.set_cons_succ,i64_w,i32_w]
                         rfl
                       refine pure_ (i:=8) (N:=some 40) (v:=?_) (a':=?_) #[true,true,true,true,true,true,false,false,true,false,false,false,false,false,false,false,false,false,false,false,false] rfl rfl (any_of HT_.out (by kernel_rfl)) (fun _ _ _ h=>h) (Or.inl ⟨by rfl,?_⟩) ?_ ?_
                       rotate_left
                       · intro w'
                         go_simp
                         with_reducible rfl
                       rotate_left
                       · simp only [Act.put,List.setIfInBounds_toArray,List.set_cons_zero,List.set_cons_succ,i64_w,i32_w]
                         rfl
                       refine pure_ (i:=10) (N:=some 42) (v:=?_) (a':=?_) #[true,true,true,true,true,true,false,false,true,false,true,false,false,false,false,false,false,false,false,false,false] rfl rfl (any_of HT_.out (by kernel_rfl)) (fun _ _ _ h=>h) (Or.inl ⟨by rfl,?_⟩) ?_ ?_
                       rotate_left
                       · intro w'
                         go_simp
                         with_reducible rfl
                       rotate_left
                       · simp only [Act.put,List.setIfInBounds_toArray,List.set_cons_zero,List.set_cons_succ,i64_w,i32_w]
                         rfl
                       refine pure_ (i:=13) (N:=some 45) (v:=?_) (a':=?_) #[true,true,true,true,true,true,false,false,true,false,true,false,false,true,false,false,false,false,false,false,false] rfl rfl (any_of HT_.out (by kernel_rfl)) (fun _ _ _ h=>h) (Or.inl ⟨by rfl,?_⟩) ?_ ?_
                       rotate_left
                       · intro w'
                         go_simp
                         with_reducible rfl
                       rotate_left
                       · simp only [Act.put,List.setIfInBounds_toArray,List.set_cons_zero,List.set_cons_succ,i64_w,i32_w]
                         rfl
                       refine pure_ (i:=15) (N:=some 47) (v:=?_) (a':=?_) #[true,true,true,true,true,true,false,false,true,false,true,false,false,true,false,true,false,false,false,false,false] rfl rfl (any_of HT_.out (by kernel_rfl)) (fun _ _ _ h=>h) (Or.inl ⟨by rfl,?_⟩) ?_ ?_
                       rotate_left
                       · intro w'
                         go_simp
                         with_reducible rfl
                       rotate_left
                       · simp only [Act.put,List.setIfInBounds_toArray,List.set_cons_zero,List.set_cons_succ,i64_w,i32_w]
                         rfl
                       refine take_ (i:=6) (N:=some 38) (v:=?_) (a':=?_) #[true,true,true,true,true,true,true,false,true,false,true,false,false,true,false,true,false,false,false,false,false] rfl rfl (take_ofW HT_.out HW_.out (by kernel_rfl)) (fun _ _ _ h=>h) (Or.inl ⟨by rfl,?_⟩) hHeld ?_ ?_
                       rotate_left
                       · rintro w' ⟨s0,s1,s2,s3,s4,s5,s6⟩
                         go_simp
                         with_reducible rfl
                       rotate_left
                       · simp only [Act.put,List.setIfInBounds_toArray,List.set_cons_zero,List.set_cons_succ,i64_w,i32_w]
                         rfl
                       refine pure_ (i:=7) (N:=some 39) (v:=?_) (a':=?_) #[true,true,true,true,true,true,true,true,true,false,true,false,false,true,false,true,false,false,false,false,false] rfl rfl (any_of HT_.out (by kernel_rfl)) (fun _ _ _ h=>h) (Or.inl ⟨by rfl,?_⟩) ?_ ?_
                       rotate_left
                       · intro w'
                         go_simp
                         with_reducible rfl
                       rotate_left
                       · simp only [Act.put,List.setIfInBounds_toArray,List.set_cons_zero,List.set_cons_succ,i64_w,i32_w]
                         rfl
                       refine take_ (i:=9) (N:=some 41) (v:=?_) (a':=?_) #[true,true,true,true,true,true,true,true,true,true,true,false,false,true,false,true,false,false,false,false,false] rfl rfl (take_ofW HT_.out HW_.out (by kernel_rfl)) (fun _ _ _ h=>h) (Or.inl ⟨by rfl,?_⟩) hHeld ?_ ?_
                       rotate_left
                       · rintro w' ⟨s0,s1,s2,s3,s4,s5,s6⟩
                         go_simp
                         with_reducible rfl
                       rotate_left
                       · simp only [Act.put,List.setIfInBounds_toArray,List.set_cons_zero,List.set_cons_succ,i64_w,i32_w]
                         rfl
                       refine pure_ (i:=11) (N:=some 43) (v:=?_) (a':=?_) #[true,true,true,true,true,true,true,true,true,true,true,true,false,true,false,true,false,false,false,false,false] rfl rfl (any_of HT_.out (by kernel_rfl)) (fun _ _ _ h=>h) (Or.inl ⟨by rfl,?_⟩) ?_ ?_
                       rotate_left
                       · intro w'
                         go_simp
                         with_reducible rfl
                       rotate_left
                       · simp only [Act.put,List.setIfInBounds_toArray,List.set_cons_zero,List.set_cons_succ,i64_w,i32_w]
                         rfl
                       refine take_ (i:=12) (N:=some 44) (v:=?_) (a':=?_) #[true,true,true,true,true,true,true,true,true,true,true,true,true,true,false,true,false,false,false,false,false] rfl rfl (take_ofW HT_.out HW_.out (by kernel_rfl)) (fun _ _ _ h=>h) (Or.inl ⟨by rfl,?_⟩) hHeld ?_ ?_
                       rotate_left
                       · rintro w' ⟨s0,s1,s2,s3,s4,s5,s6⟩
                         go_simp
                         with_reducible rfl
                       rotate_left
                       · simp only [Act.put,List.setIfInBounds_toArray,List.set_cons_zero,List.set_cons_succ,i64_w,i32_w]
                         rfl
                       refine take_ (i:=14) (N:=some 46) (v:=?_) (a':=?_) #[true,true,true,true,true,true,true,true,true,true,true,true,true,true,true,true,false,false,false,false,false] rfl rfl (take_ofW HT_.out HW_.out (by kernel_rfl)) (fun _ _ _ h=>h) (Or.inl ⟨by rfl,?_⟩) hHeld ?_ ?_
                       rotate_left
                       · rintro w' ⟨s0,s1,s2,s3,s4,s5,s6⟩
                         go_simp
                         with_reducible rfl
                       rotate_left
                       · simp only [Act.put,List.setIfInBounds_toArray,List.set_cons_zero,List.set_cons_succ,i64_w,i32_w]
                         rfl
                       refine pure_ (i:=16) (N:=some 48) (v:=?_) (a':=?_) #[true,true,true,true,true,true,true,true,true,true,true,true,true,true,true,true,true,false,false,false,false] rfl rfl (any_of HT_.out (by kernel_rfl)) (fun _ _ _ h=>h) (Or.inl ⟨by rfl,?_⟩) ?_ ?_
                       rotate_left
                       · intro w'
                         go_simp
                         with_reducible rfl
                       rotate_left
                       · simp only [Act.put,List.setIfInBounds_toArray,List.set_cons_zero,List.set_cons_succ,i64_w,i32_w]
                         rfl
                       refine take_ (i:=17) (N:=some 49) (v:=?_) (a':=?_) #[true,true,true,true,true,true,true,true,true,true,true,true,true,true,true,true,true,true,false,false,false] rfl rfl (take_ofW HT_.out HW_.out (by kernel_rfl)) (fun _ _ _ h=>h) (Or.inl ⟨by rfl,?_⟩) hHeld ?_ ?_
                       rotate_left
                       · rintro w' ⟨s0,s1,s2,s3,s4,s5,s6⟩
                         go_simp
                         with_reducible rfl
                       rotate_left
                       · simp only [Act.put,List.setIfInBounds_toArray,List.set_cons_zero,List.set_cons_succ,i64_w,i32_w]
                         rfl
                       refine pure_ (i:=18) (N:=some 50) (v:=?_) (a':=?_) #[true,true,true,true,true,true,true,true,true,true,true,true,true,true,true,true,true,true,true,false,false] rfl rfl (any_of HT_.out (by kernel_rfl)) (fun _ _ _ h=>h) (Or.inl ⟨by rfl,?_⟩) ?_ ?_
                       rotate_left
                       · intro w'
                         go_simp
                         with_reducible rfl
                       rotate_left
                       · simp only [Act.put,List.setIfInBounds_toArray,List.set_cons_zero,List.set_cons_succ,i64_w,i32_w]
                         rfl
                       refine pure_ (i:=19) (N:=some 51) (v:=?_) (a':=?_) #[true,true,true,true,true,true,true,true,true,true,true,true,true,true,true,true,true,true,true,true,false] rfl rfl (any_of HT_.out (by kernel_rfl)) (fun _ _ _ h=>h) (Or.inl ⟨by rfl,?_⟩) ?_ ?_
                       rotate_left
                       · intro w'
                         go_simp
                         with_reducible rfl
                       rotate_left
                       · simp only [Act.put,List.setIfInBounds_toArray,List.set_cons_zero,List.set_cons_succ,i64_w,i32_w]
                         rfl
                       refine pure_ (i:=20) (N:=some 7) (v:=?_) (a':=?_) #[true,true,true,true,true,true,true,true,true,true,true,true,true,true,true,true,true,true,true,true,true] rfl rfl (any_of HT_.out (by kernel_rfl)) (fun _ _ _ h=>h) (Or.inl ⟨by rfl,?_⟩) ?_ ?_
                       rotate_left
                       · intro w'
                         go_simp
                         with_reducible rfl
                       rotate_left
                       · simp only [Act.put,List.setIfInBounds_toArray,List.set_cons_zero,List.set_cons_succ,i64_w,i32_w]
                         rfl
                       refine done_ (done_of HT_.out (by kernel_rfl)) ?_
                       have p27:0≤((ji21):Int):=of_decide_eq_true (by assumption)
                       have q27:((ji21):Int)<((x5_2.length:Int):Int):=of_decide_eq_true (by assumption)
                       obtain ⟨go27,co27,eo27,gb27,gl27,cl27,HG27⟩:=Kd.R_form HO_5.out (by omega)
                       (first|cases eo27|(injection eo27 with ea_ en_ ec_;(first|subst ea_|(injection ea_ with ea_;subst ea_));subst ec_;clear en_))
                       have GB27:=Aside0.mk gb27
                       have GG27:=Aside0.mk HG27
                       clear gb27 gl27 HG27
                       (first|simp only [add_plain] at hx211_0|skip)
                       obtain ⟨hx27_0,hf27_0⟩:=Kd.R_celln 0 HO_5.out ((ji21):Int) p27 q27
                       replace p27:=eq_true p27
                       replace q27:=eq_true q27
                       obtain ⟨hy33_,hz33_⟩:=Kd.R_celln 0 HO_5.out ((ji21):Int) (of_decide_eq_true (by assumption)) (of_decide_eq_true (by assumption))
                       have HP33:=Kd.R_putg HO_5.out ((ji21):Int) (Int.tmod (wrap64 ((wrap64 (x7_2+(rd x5_2 (ji21))))+(wrap64 ((rd l0_1 x6_1) * (rd l1_1 x8_2))))) 2147483648)
                       try go_wp2_with (first|((with_reducible refine gate_store (t:=3) (p:=58) rfl ?_);refine store_event (t:=3) (p:=58) (v:=?vo_w34) (w1:=(w31.setCell ⟨go27,((ji21):Int).toNat,none⟩ (.int .i64 (Int.tmod (wrap64 ((wrap64 (x7_2+(rd x5_2 (ji21))))+(wrap64 ((rd l0_1 x6_1) * (rd l1_1 x8_2))))) 2147483648)))) ?hg ?ho ?hn ?hr ?_;(case ho=>rfl);(case hg=>rfl);(case hn=>rfl);(case hr=>first|(go_simp;done)|(go_simp;rfl));intro w34 hw;have hg:w31.grownBy w34 (some go27):=(by rw [hw];exact HP33.2);have hp_:Kd.R (Kd.int .i64) 3 w34 w.heap.size (fun _=>True) (.slice (some ⟨go27,0,none⟩) x5_2.length co32) y214:=(by rw [hw,Ny214.out];exact HP33.1);clear HP33;have n0_:=Aside0.mk (hp_);have n1_:=Aside0.mk (blk_grown (g:=gb202) (o:=.cells #[.bool a0_0,.slice (some ad212) l0_1.length c0_1] 73 (0,0)) (by (with_reducible repeat (first|refine blk_drewN ?_ _|refine blk_drew ?_|refine blk_alloc ?_ _));exact BK202.out) hg (Kd.R_ne HO_5.out BK202.out (by decide)));have n2_:=Aside0.mk (blk_grown (g:=gb203) (o:=.cells #[.bool a1_0,.slice (some ad213) l1_1.length c1_1] 73 (0,0)) (by (with_reducible repeat (first|refine blk_drewN ?_ _|refine blk_drew ?_|refine blk_alloc ?_ _));exact BK203.out) hg (Kd.R_ne HO_5.out BK203.out (by decide)));have n3_:=Aside0.mk (blk_grown (g:=gb204) (o:=.cells #[.bool false,.slice none 0 0] 73 (0,0)) (by (with_reducible repeat (first|refine blk_drewN ?_ _|refine blk_drew ?_|refine blk_alloc ?_ _));exact BK204.out) hg (Kd.R_ne HO_5.out BK204.out (by decide)));have n4_:=Aside0.mk ((by rw [hw];exact below_set (HB.out) GB27.out:Below w.heap.size w w34));clear HO_5;clear BK202;clear BK203;clear BK204;clear HB;have HO_5:=n0_;have BK202:=n1_;have BK203:=n2_;have BK204:=n3_;have HB:=n4_;clear n0_ n1_ n2_ n3_ n4_;clear hg hw hp_))
                       go_roundg k2
                       case measure=>have:=HK1.out;have:=HK2.out;omega
                       case rel=>exact ⟨(y214),(wrap64 (Int.tdiv (wrap64 ((wrap64 (x7_2+(rd x5_2 (ji21))))+(wrap64 ((rd l0_1 x6_1) * (rd l1_1 x8_2))))) 2147483648)),(wrap64 (x8_2+1)),(by first|rfl|(simp;done)|(simp only [← hji21]<;>(first|rfl|simp))|(simp [*];done)),(by first|rfl|(simp;done)|(simp [*];done)),H',⟨by have:=HK1.out;have:=HK2.out;omega⟩,⟨by (with_reducible repeat (first|apply Kd.R_alloc|apply Kd.R_drewN|apply Kd.R_drew));exact HO_5.out⟩,⟨by (with_reducible repeat (first|refine blk_drewN ?_ _|refine blk_drew ?_|refine blk_alloc ?_ _));exact BK202.out⟩,⟨by (with_reducible repeat (first|refine blk_drewN ?_ _|refine blk_drew ?_|refine blk_alloc ?_ _));exact BK203.out⟩,⟨by (with_reducible repeat (first|refine blk_drewN ?_ _|refine blk_drew ?_|refine blk_alloc ?_ _));exact BK204.out⟩,⟨by repeat (with_reducible first|exact HB.out|apply below_alloc|apply pw_below_drewN|apply below_drew1|refine below_set ?_ GE202.out|refine below_set ?_ GE203.out|refine below_set ?_ GE204.out)⟩⟩
                     · rw [if_neg c26] at H
                       exact absurd H (by simp)
                   · rw [if_neg c25] at H
                     exact absurd H (by simp)
                 · rw [if_neg c24] at H
                   exact absurd H (by simp)
               · rw [if_neg c23] at H
                 exact absurd H (by simp)
             · rw [if_neg c22] at H
               exact absurd H (by simp)
           · rw [if_neg c20] at H
             have c20b0:decide (x8_2<(l1_1.length:Int))=false:=decide_eq_false c20
             clear c20
             obtain ⟨ji35,hji35⟩:∃ j_:Int,(wrap64 (x6_1+(l1_1.length:Int)))=j_:=⟨_,rfl⟩
             replace H:(if 0≤(ji35) then (if (ji35)<(x5_2.length:Int) then (octroiref01_Mul.l0 k2 (x5_2.set ((ji35):Int).toNat (wrap64 ((rd x5_2 (ji35))+x7_2))) (wrap64 (x6_1+1)) a0_0 l0_1 a1_0 l1_1) else (none)) else (none))=some (r1,r2):=by first|(rw [hji35] at H;exact H)|(simp only [hji35] at H ⊢;exact H)
             have hji35w:(IntKind.i64.wrap (x6_1+(l1_1.length:Int)))=ji35:=(i64_w _).trans hji35
             by_cases c36:0≤(ji35)
             · rw [if_pos c36] at H
               have c36b0:decide (0≤(ji35))=true:=decide_eq_true c36
               clear c36
               by_cases c37:(ji35)<(x5_2.length:Int)
               · rw [if_pos c37] at H
                 have c37b0:decide ((ji35)<(x5_2.length:Int))=true:=decide_eq_true c37
                 clear c37
                 obtain ⟨y216,hy216⟩:∃ y_:List Int,y_=(x5_2.set ((ji35):Int).toNat (wrap64 ((rd x5_2 (ji35))+x7_2))):=⟨_,rfl⟩
                 replace H:(octroiref01_Mul.l0 k2 y216 (wrap64 (x6_1+1)) a0_0 l0_1 a1_0 l1_1)=some (r1,r2):=by first|(rw [hy216];with_reducible exact H)|(have H2_:=(Option.bind_some _ _).symm.trans H;rw [hy216];with_reducible exact H2_)|(have H2_:=(Option.bind_some _ _).symm.trans H;with_reducible exact H2_)|with_reducible exact H|(rw [hy216];exact H)|exact H
                 have Ny216:=Aside0.mk hy216
                 clear hy216
                 have H':=Aside0.mk H
                 clear H
                 have hnb39:=NB203_202.out
                 have hnc39:=NB202_203.out
                 have hnb40:=NB203_204.out
                 have hnc40:=NB204_203.out
                 have hcz41_0:wr.cell? ⟨gb203,0,none⟩=some (.bool a1_0):=(blk_cell BK203.out 0).trans rfl
                 have hcz41_1:wr.cell? ⟨gb203,1,none⟩=some (.slice A1_1 l1_1.length c1_1):=(blk_cell BK203.out 1).trans rfl
                 have hfz41_0:=blk_frozen BK203.out 0
                 have hfz41_1:=blk_frozen BK203.out 1
                 try go_wp2
                 have n0_:=Aside0.mk (Kd.R_drew HO_5.out)
                 have n1_:=Aside0.mk (blk_drew BK202.out)
                 have n2_:=Aside0.mk (blk_drew BK203.out)
                 have n3_:=Aside0.mk (blk_drew BK204.out)
                 have n4_:=Aside0.mk (below_drew1 HB.out)
                 clear HO_5
                 clear BK202
                 clear BK203
                 clear BK204
                 clear HB
                 have HO_5:=n0_
                 have BK202:=n1_
                 have BK203:=n2_
                 have BK204:=n3_
                 have HB:=n4_
                 clear n0_ n1_ n2_ n3_ n4_
                 obtain ⟨Ao43,co43,eo43⟩:=Kd.R_slice HO_5.out
                 (first|subst eo43|(injection eo43 with f1_ f2_ f3_;have f4_:=f1_.symm;have f5_:=f3_.symm;clear f1_ f2_ f3_;subst f4_;subst f5_))
                 have p215:0≤((ji35):Int):=of_decide_eq_true (by assumption)
                 have q215:(ji35)<(x5_2.length:Int):=of_decide_eq_true (by assumption)
                 obtain ⟨ad215,e215,hx215_0⟩:=Kd.at_int (Kd.R_reads' HO_5.out).2.2 (ji35) p215 q215
                 cases e215
                 replace p215:=eq_true p215
                 replace q215:=eq_true q215
                 have p38:0≤((ji35):Int):=of_decide_eq_true (by assumption)
                 have q38:((ji35):Int)<((x5_2.length:Int):Int):=of_decide_eq_true (by assumption)
                 obtain ⟨go38,co38,eo38,gb38,gl38,cl38,HG38⟩:=Kd.R_form HO_5.out (by omega)
                 (first|cases eo38|(injection eo38 with ea_ en_ ec_;(first|subst ea_|(injection ea_ with ea_;subst ea_));subst ec_;clear en_))
                 have GB38:=Aside0.mk gb38
                 have GG38:=Aside0.mk HG38
                 clear gb38 gl38 HG38
                 (first|simp only [add_plain] at hx215_0|skip)
                 obtain ⟨hx38_0,hf38_0⟩:=Kd.R_celln 0 HO_5.out ((ji35):Int) p38 q38
                 replace p38:=eq_true p38
                 replace q38:=eq_true q38
                 have HP44:=Kd.R_putn HO_5.out ((ji35):Int) (wrap64 ((rd x5_2 (ji35))+x7_2))
                 rw [← Ny216.out] at HP44
                 have HQ44:=Aside0.mk HP44
                 clear HP44
                 refine start_ (n:=18) (S:=fun w'=>w'.cell? ⟨gb203,0,none⟩=some (.bool a1_0)∧w'.cell? ⟨gb203,1,none⟩=some (.slice A1_1 l1_1.length c1_1)∧w'.cell? ⟨go38,((ji35)).toNat,none⟩=some (.int .i64 (rd x5_2 (ji35)))) (ds:=[17]) #[false,false,false,false,false,false,false,false,false,false,false,false,false,false,false,false,false,false] (by kernel_rfl) rfl rfl ⟨(blk_cell BK203.out 0).trans rfl,(blk_cell BK203.out 1).trans rfl,hx215_0⟩ (fun hHeld=>?_);refine with_tabW octroiref01_Mul.tab12 octroiref01_Mul.bits12 (fun HT_ HW_=>?_)
                 generalize wr.drew=w42 at HO_5 BK202 BK203 BK204 HB GG38 HQ44 hf38_0 hx215_0 hx38_0 hHeld ⊢
                 refine pure_ (i:=0) (N:=some 61) (v:=?_) (a':=?_) #[true,false,false,false,false,false,false,false,false,false,false,false,false,false,false,false,false,false] rfl rfl (any_of HT_.out (by kernel_rfl)) (fun _ _ _ h=>h) (Or.inl ⟨by rfl,?_⟩) ?_ ?_
                 rotate_left
                 · intro w'
                   go_simp
                   with_reducible rfl
                 rotate_left
                 · simp only [Act.put,List.setIfInBounds_toArray,List.set_cons_zero,List.set_cons_succ,i64_w,i32_w]
                   rfl
                 refine pure_ (i:=1) (N:=some 62) (v:=?_) (a':=?_) #[true,true,false,false,false,false,false,false,false,false,false,false,false,false,false,false,false,false] rfl rfl (any_of HT_.out (by kernel_rfl)) (fun _ _ _ h=>h) (Or.inl ⟨by rfl,?_⟩) ?_ ?_
                 rotate_left
                 · intro w'
                   go_simp
                   with_reducible rfl
                 rotate_left
                 · simp only [Act.put,List.setIfInBounds_toArray,List.set_cons_zero,List.set_cons_succ,i64_w,i32_w]
                   rfl
                 refine pure_ (i:=2) (N:=some 63) (v:=?_) (a':=?_) #[true,true,true,false,false,false,false,false,false,false,false,false,false,false,false,false,false,false] rfl rfl (any_of HT_.out (by kernel_rfl)) (fun _ _ _ h=>h) (Or.inl ⟨by rfl,?_⟩) ?_ ?_
                 rotate_left
                 · intro w'
                   go_simp
                   with_reducible rfl
                 rotate_left
                 · simp only [Act.put,List.setIfInBounds_toArray,List.set_cons_zero,List.set_cons_succ,i64_w,i32_w]
                   rfl
                 refine pure_ (i:=6) (N:=some 67) (v:=?_) (a':=?_) #[true,true,true,false,false,false,true,false,false,false,false,false,false,false,false,false,false,false] rfl rfl (any_of HT_.out (by kernel_rfl)) (fun _ _ _ h=>h) (Or.inl ⟨by rfl,?_⟩) ?_ ?_
                 rotate_left
                 · intro w'
                   go_simp
                   with_reducible rfl
                 rotate_left
                 · simp only [Act.put,List.setIfInBounds_toArray,List.set_cons_zero,List.set_cons_succ,i64_w,i32_w]
                   rfl
                 refine pure_ (i:=7) (N:=some 68) (v:=?_) (a':=?_) #[true,true,true,false,false,false,true,true,false,false,false,false,false,false,false,false,false,false] rfl rfl (any_of HT_.out (by kernel_rfl)) (fun _ _ _ h=>h) (Or.inl ⟨by rfl,?_⟩) ?_ ?_
                 rotate_left
                 · intro w'
                   go_simp
                   with_reducible rfl
                 rotate_left
                 · simp only [Act.put,List.setIfInBounds_toArray,List.set_cons_zero,List.set_cons_succ,i64_w,i32_w]
                   rfl
                 refine pure_ (i:=8) (N:=some 69) (v:=?_) (a':=?_) #[true,true,true,false,false,false,true,true,true,false,false,false,false,false,false,false,false,false] rfl rfl (any_of HT_.out (by kernel_rfl)) (fun _ _ _ h=>h) (Or.inl ⟨by rfl,?_⟩) ?_ ?_
                 rotate_left
                 · intro w'
                   go_simp
                   with_reducible rfl
                 rotate_left
                 · simp only [Act.put,List.setIfInBounds_toArray,List.set_cons_zero,List.set_cons_succ,i64_w,i32_w]
                   rfl
                 refine pure_ (i:=14) (N:=some 75) (v:=?_) (a':=?_) #[true,true,true,false,false,false,true,true,true,false,false,false,false,false,true,false,false,false] rfl rfl (any_of HT_.out (by kernel_rfl)) (fun _ _ _ h=>h) (Or.inl ⟨by rfl,?_⟩) ?_ ?_
                 rotate_left
                 · intro w'
                   go_simp
                   with_reducible rfl
                 rotate_left
                 · simp only [Act.put,List.setIfInBounds_toArray,List.set_cons_zero,List.set_cons_succ,i64_w,i32_w]
                   rfl
                 refine take_ (i:=3) (N:=some 64) (v:=?_) (a':=?_) #[true,true,true,true,false,false,true,true,true,false,false,false,false,false,true,false,false,false] rfl rfl (take_ofW HT_.out HW_.out (by kernel_rfl)) (fun _ _ _ h=>h) (Or.inl ⟨by rfl,?_⟩) hHeld ?_ ?_
                 rotate_left
                 · rintro w' ⟨s0,s1,s2⟩
                   go_simp
                   with_reducible rfl
                 rotate_left
                 · simp only [Act.put,List.setIfInBounds_toArray,List.set_cons_zero,List.set_cons_succ,i64_w,i32_w]
                   rfl
                 refine pure_ (i:=4) (N:=some 65) (v:=?_) (a':=?_) #[true,true,true,true,true,false,true,true,true,false,false,false,false,false,true,false,false,false] rfl rfl (any_of HT_.out (by kernel_rfl)) (fun _ _ _ h=>h) (Or.inl ⟨by rfl,?_⟩) ?_ ?_
                 rotate_left
                 · intro w'
                   go_simp
                   with_reducible rfl
                 rotate_left
                 · simp only [Act.put,List.setIfInBounds_toArray,List.set_cons_zero,List.set_cons_succ,i64_w,i32_w]
                   rfl
                 refine pure_ (i:=5) (N:=some 66) (v:=?_) (a':=?_) #[true,true,true,true,true,true,true,true,true,false,false,false,false,false,true,false,false,false] rfl rfl (any_of HT_.out (by kernel_rfl)) (fun _ _ _ h=>h) (Or.inl ⟨by rfl,?_⟩) ?_ ?_
                 rotate_left
                 · intro w'
                   go_simp
                   with_reducible rfl
                 rotate_left
                 · simp only [Act.put,List.setIfInBounds_toArray,List.set_cons_zero,List.set_cons_succ,i64_w,i32_w]
                   rfl
                 refine take_ (i:=9) (N:=some 70) (v:=?_) (a':=?_) #[true,true,true,true,true,true,true,true,true,true,false,false,false,false,true,false,false,false] rfl rfl (take_ofW HT_.out HW_.out (by kernel_rfl)) (fun _ _ _ h=>h) (Or.inl ⟨by rfl,?_⟩) hHeld ?_ ?_
                 rotate_left
                 · rintro w' ⟨s0,s1,s2⟩
                   go_simp
                   with_reducible rfl
                 rotate_left
                 · simp only [Act.put,List.setIfInBounds_toArray,List.set_cons_zero,List.set_cons_succ,i64_w,i32_w]
                   rfl
                 refine pure_ (i:=10) (N:=some 71) (v:=?_) (a':=?_) #[true,true,true,true,true,true,true,true,true,true,true,false,false,false,true,false,false,false] rfl rfl (any_of HT_.out (by kernel_rfl)) (fun _ _ _ h=>h) (Or.inl ⟨by rfl,?_⟩) ?_ ?_
                 rotate_left
                 · intro w'
                   go_simp
                   with_reducible rfl
                 rotate_left
                 · simp only [Act.put,List.setIfInBounds_toArray,List.set_cons_zero,List.set_cons_succ,i64_w,i32_w]
                   rfl
                 refine pure_ (i:=11) (N:=some 72) (v:=?_) (a':=?_) #[true,true,true,true,true,true,true,true,true,true,true,true,false,false,true,false,false,false] rfl rfl (any_of HT_.out (by kernel_rfl)) (fun _ _ _ h=>h) (Or.inl ⟨by rfl,?_⟩) ?_ ?_
                 rotate_left
                 · intro w'
                   go_simp
                   with_reducible rfl
                 rotate_left
                 · simp only [Act.put,List.setIfInBounds_toArray,List.set_cons_zero,List.set_cons_succ,i64_w,i32_w]
                   rfl
                 refine pure_ (i:=12) (N:=some 73) (v:=?_) (a':=?_) #[true,true,true,true,true,true,true,true,true,true,true,true,true,false,true,false,false,false] rfl rfl (any_of HT_.out (by kernel_rfl)) (fun _ _ _ h=>h) (Or.inl ⟨by rfl,?_⟩) ?_ ?_
                 rotate_left
                 · intro w'
                   go_simp
                   with_reducible rfl
                 rotate_left
                 · simp only [Act.put,List.setIfInBounds_toArray,List.set_cons_zero,List.set_cons_succ,i64_w,i32_w]
                   rfl
                 refine take_ (i:=13) (N:=some 74) (v:=?_) (a':=?_) #[true,true,true,true,true,true,true,true,true,true,true,true,true,true,true,false,false,false] rfl rfl (take_ofW HT_.out HW_.out (by kernel_rfl)) (fun _ _ _ h=>h) (Or.inl ⟨by rfl,?_⟩) hHeld ?_ ?_
                 rotate_left
                 · rintro w' ⟨s0,s1,s2⟩
                   go_simp
                   with_reducible rfl
                 rotate_left
                 · simp only [Act.put,List.setIfInBounds_toArray,List.set_cons_zero,List.set_cons_succ,i64_w,i32_w]
                   rfl
                 refine pure_ (i:=15) (N:=some 76) (v:=?_) (a':=?_) #[true,true,true,true,true,true,true,true,true,true,true,true,true,true,true,true,false,false] rfl rfl (any_of HT_.out (by kernel_rfl)) (fun _ _ _ h=>h) (Or.inl ⟨by rfl,?_⟩) ?_ ?_
                 rotate_left
                 · intro w'
                   go_simp
                   with_reducible rfl
                 rotate_left
                 · simp only [Act.put,List.setIfInBounds_toArray,List.set_cons_zero,List.set_cons_succ,i64_w,i32_w]
                   rfl
                 refine pure_ (i:=16) (N:=some 77) (v:=?_) (a':=?_) #[true,true,true,true,true,true,true,true,true,true,true,true,true,true,true,true,true,false] rfl rfl (any_of HT_.out (by kernel_rfl)) (fun _ _ _ h=>h) (Or.inl ⟨by rfl,?_⟩) ?_ ?_
                 rotate_left
                 · intro w'
                   go_simp
                   with_reducible rfl
                 rotate_left
                 · simp only [Act.put,List.setIfInBounds_toArray,List.set_cons_zero,List.set_cons_succ,i64_w,i32_w]
                   rfl
                 refine last_ (i:=17) (N:=none) #[true,true,true,true,true,true,true,true,true,true,true,true,true,true,true,true,true,true] rfl rfl (one_of HT_.out (by kernel_rfl)) (by decide) (fun K hK=>?_)
                 refine skip_ (w1:=?_) (by rfl) rfl ?_ ?_
                 rotate_left
                 · go_simp
                   rfl
                 refine hK.out _ _ ?_
                 clear hK K
                 refine done_ (done_of HT_.out (by kernel_rfl)) ?_
                 try go_wp2
                 go_roundg k2
                 case measure=>have:=HK1.out;have:=HK2.out;omega
                 case rel=>exact ⟨(y216),(wrap64 (x6_1+1)),(by first|rfl|(simp;done)|(simp [*];done)),H',⟨by have:=HK1.out;have:=HK2.out;omega⟩,⟨by (with_reducible repeat (first|apply Kd.R_alloc|apply Kd.R_drewN|apply Kd.R_drew));exact HQ44.out⟩,⟨by (with_reducible repeat (first|refine blk_drewN ?_ _|refine blk_drew ?_|refine blk_alloc ?_ _));refine blk_far ?_ (by have h_:=Kd.R_ne HO_5.out BK202.out (by decide);intro e_;exact h_ (by rw [e_];rfl)) _;(with_reducible repeat (first|refine blk_drewN ?_ _|refine blk_drew ?_|refine blk_alloc ?_ _));exact BK202.out⟩,⟨by (with_reducible repeat (first|refine blk_drewN ?_ _|refine blk_drew ?_|refine blk_alloc ?_ _));refine blk_far ?_ (by have h_:=Kd.R_ne HO_5.out BK203.out (by decide);intro e_;exact h_ (by rw [e_];rfl)) _;(with_reducible repeat (first|refine blk_drewN ?_ _|refine blk_drew ?_|refine blk_alloc ?_ _));exact BK203.out⟩,⟨by (with_reducible repeat (first|refine blk_drewN ?_ _|refine blk_drew ?_|refine blk_alloc ?_ _));refine blk_far ?_ (by have h_:=Kd.R_ne HO_5.out BK204.out (by decide);intro e_;exact h_ (by rw [e_];rfl)) _;(with_reducible repeat (first|refine blk_drewN ?_ _|refine blk_drew ?_|refine blk_alloc ?_ _));exact BK204.out⟩,⟨by repeat (with_reducible first|exact HB.out|apply below_alloc|apply pw_below_drewN|apply below_drew1|refine below_set ?_ GB38.out|refine below_set ?_ GE202.out|refine below_set ?_ GE203.out|refine below_set ?_ GE204.out)⟩⟩
               · rw [if_neg c37] at H
                 exact absurd H (by simp)
             · rw [if_neg c36] at H
               exact absurd H (by simp)
       · rw [if_neg c16] at H
         have c16b0:decide (x6_1<(l0_1.length:Int))=false:=decide_eq_false c16
         clear c16
         replace H:=Option.bind_eq_some_iff.mp H
         obtain ⟨t208,A450,H⟩:=H
         replace H:(if (t208.length:Int)>0 then (some ((a0_0 != a1_0),t208)) else (some (false,t208)))=some (r1,r2):=H
         have A45:=Aside0.mk A450
         clear A450
         by_cases c46:(t208.length:Int)>0
         · rw [if_pos c46] at H
           have c46b0:decide (0<(t208.length:Int))=true:=decide_eq_true c46
           have c46b1:decide (0<t208.length)=true:=decide_eq_true (by omega)
           clear c46
           simp only [Option.some.injEq,Prod.mk.injEq] at H
           obtain ⟨rfl,rfl⟩:=H
           have hnb47:=NB202_203.out
           have hnc47:=NB203_202.out
           have hnb48:=NB202_204.out
           have hnc48:=NB204_202.out
           have hcz49_0:wr.cell? ⟨gb202,0,none⟩=some (.bool a0_0):=(blk_cell BK202.out 0).trans rfl
           have hcz49_1:wr.cell? ⟨gb202,1,none⟩=some (.slice A0_1 l0_1.length c0_1):=(blk_cell BK202.out 1).trans rfl
           have hfz49_0:=blk_frozen BK202.out 0
           have hfz49_1:=blk_frozen BK202.out 1
           obtain ⟨Ao50,co50,eo50⟩:=Kd.R_slice HO_5.out
           subst eo50
           go_wp2_with (first|((with_reducible refine gate_callee (f:=62) rfl ?_);refine goesL_ (some 79) rfl rfl Try.func62 (by kernel_rfl) rfl #[.slice Ao50 x5_1.length co50] rfl (by (try simp only [List.map_toArray,List.map_cons,List.map_nil]);first|done|rfl|(simp only [List.length_drop,List.length_take];rfl)) ?_;(with_reducible refine (octroiref01_clean.calls k1 (fun k_=>some k_=(.slice Ao50 x5_1.length co50:Value).ownBlock) (.slice Ao50 x5_1.length co50) x5_1 t208 w _ ?side1 ?side2 A45.out).mono ?_);(case side1=>repeat (with_reducible first|exact HB.out|apply below_alloc|apply pw_below_drewN|apply below_drew1|refine below_set ?_ GE202.out|refine below_set ?_ GE203.out|refine below_set ?_ GE204.out));(case side2=>exact Kd.R_tight rfl HO_5.out);rintro e w51 ⟨v209,rfl,ho0,hb,hkp⟩;refine ⟨_,rfl,?_⟩;have n0_:=Aside0.mk (blk_kept (by (with_reducible repeat (first|refine blk_drewN ?_ _|refine blk_drew ?_|refine blk_alloc ?_ _));exact BK202.out) hkp (fun hs_=>(fun e_=>(Kd.R_ne HO_5.out BK202.out (by decide)) e_) hs_));have n1_:=Aside0.mk (blk_kept (by (with_reducible repeat (first|refine blk_drewN ?_ _|refine blk_drew ?_|refine blk_alloc ?_ _));exact BK203.out) hkp (fun hs_=>(fun e_=>(Kd.R_ne HO_5.out BK203.out (by decide)) e_) hs_));have n2_:=Aside0.mk (blk_kept (by (with_reducible repeat (first|refine blk_drewN ?_ _|refine blk_drew ?_|refine blk_alloc ?_ _));exact BK204.out) hkp (fun hs_=>(fun e_=>(Kd.R_ne HO_5.out BK204.out (by decide)) e_) hs_));have n3_:=Aside0.mk (Kd.R_mono (ok':=fun k_=>True) ho0 (fun k_ hk_=>trivial));have n4_:=Aside0.mk (hb);clear BK202;clear BK203;clear BK204;clear HB;clear HO_5;have BK202:=n0_;have BK203:=n1_;have BK204:=n2_;have HO210:=n3_;have HB:=n4_;clear n0_ n1_ n2_ n3_ n4_;(try clear hb);(try clear hkp);(try clear ho0);obtain ⟨Ao52,co52,eo52⟩:=Kd.R_slice HO210.out;subst eo52;have hcz53_0:w51.cell? ⟨gb202,0,none⟩=some (.bool a0_0):=(blk_cell BK202.out 0).trans rfl;have hcz53_1:w51.cell? ⟨gb202,1,none⟩=some (.slice A0_1 l0_1.length c0_1):=(blk_cell BK202.out 1).trans rfl;have hfz53_0:=blk_frozen BK202.out 0;have hfz53_1:=blk_frozen BK202.out 1;have hnb54:=NB203_204.out;have hnc54:=NB204_203.out;have hcz55_0:w51.cell? ⟨gb203,0,none⟩=some (.bool a1_0):=(blk_cell BK203.out 0).trans rfl;have hcz55_1:w51.cell? ⟨gb203,1,none⟩=some (.slice A1_1 l1_1.length c1_1):=(blk_cell BK203.out 1).trans rfl;have hfz55_0:=blk_frozen BK203.out 0;have hfz55_1:=blk_frozen BK203.out 1;have hcz56_0:w51.cell? ⟨gb204,0,none⟩=some (.bool false):=(blk_cell BK204.out 0).trans rfl;have hcz56_1:w51.cell? ⟨gb204,1,none⟩=some (.slice none 0 0):=(blk_cell BK204.out 1).trans rfl;have hfz56_0:=blk_frozen BK204.out 0;have hfz56_1:=blk_frozen BK204.out 1))
           refine bodyPost_ret (results_cell_row rfl _ _ gb204 73 #[.bool (a0_0 != a1_0),.slice Ao52 t208.length co52] (0,0) _ rfl (by (with_reducible repeat (first|refine blk_drewN ?_ _|refine blk_drew ?_|refine blk_alloc ?_ _));refine blk_put (cs:=#[.bool (a0_0 != a1_0),.slice none 0 0]) ?_ 1 _ rfl;(with_reducible repeat (first|refine blk_drewN ?_ _|refine blk_drew ?_|refine blk_alloc ?_ _));refine blk_put (cs:=#[.bool false,.slice none 0 0]) ?_ 0 _ rfl;(with_reducible repeat (first|refine blk_drewN ?_ _|refine blk_drew ?_|refine blk_alloc ?_ _));exact BK204.out) Try.underlying73 rfl (by kernel_rfl)) rfl ?_
           exact ⟨_,by first|rfl|(simp [errW_none,errW_some]<;>rfl)|(simp only [← hji3];first|rfl|(simp [errW_none,errW_some]<;>rfl))|(simp [*,errW_none,errW_some]<;>rfl),by (with_reducible repeat (first|apply Kd.R_alloc|apply Kd.R_drewN|apply Kd.R_drew));exact Kd.R_mono (Kd.R_far (p:=⟨gb204,1,none⟩) (Kd.R_far (p:=⟨gb204,0,none⟩) (Kd.R_types HO210.out BK204.out (by decide)) (fun _ hk=>hk.2) (.bool (a0_0 != a1_0))) (fun _ hk=>hk.2) (.slice Ao52 t208.length co52)) (fun _ hk=>trivial),by repeat (with_reducible first|exact HB.out|apply below_alloc|apply pw_below_drewN|apply below_drew1|refine below_set ?_ GE202.out|refine below_set ?_ GE203.out|refine below_set ?_ GE204.out)⟩
         · rw [if_neg c46] at H
           have c46b0:decide (0<(t208.length:Int))=false:=decide_eq_false c46
           have c46b1:decide (0<t208.length)=false:=decide_eq_false (by omega)
           clear c46
           simp only [Option.some.injEq,Prod.mk.injEq] at H
           obtain ⟨rfl,rfl⟩:=H
           have hnb57:=NB202_203.out
           have hnc57:=NB203_202.out
           have hnb58:=NB202_204.out
           have hnc58:=NB204_202.out
           have hcz59_0:wr.cell? ⟨gb202,0,none⟩=some (.bool a0_0):=(blk_cell BK202.out 0).trans rfl
           have hcz59_1:wr.cell? ⟨gb202,1,none⟩=some (.slice A0_1 l0_1.length c0_1):=(blk_cell BK202.out 1).trans rfl
           have hfz59_0:=blk_frozen BK202.out 0
           have hfz59_1:=blk_frozen BK202.out 1
           obtain ⟨Ao60,co60,eo60⟩:=Kd.R_slice HO_5.out
           subst eo60
           go_wp2_with (first|((with_reducible refine gate_callee (f:=62) rfl ?_);refine goesL_ (some 79) rfl rfl Try.func62 (by kernel_rfl) rfl #[.slice Ao60 x5_1.length co60] rfl (by (try simp only [List.map_toArray,List.map_cons,List.map_nil]);first|done|rfl|(simp only [List.length_drop,List.length_take];rfl)) ?_;(with_reducible refine (octroiref01_clean.calls k1 (fun k_=>some k_=(.slice Ao60 x5_1.length co60:Value).ownBlock) (.slice Ao60 x5_1.length co60) x5_1 t208 w _ ?side1 ?side2 A45.out).mono ?_);(case side1=>repeat (with_reducible first|exact HB.out|apply below_alloc|apply pw_below_drewN|apply below_drew1|refine below_set ?_ GE202.out|refine below_set ?_ GE203.out|refine below_set ?_ GE204.out));(case side2=>exact Kd.R_tight rfl HO_5.out);rintro e w61 ⟨v209,rfl,ho0,hb,hkp⟩;refine ⟨_,rfl,?_⟩;have n0_:=Aside0.mk (blk_kept (by (with_reducible repeat (first|refine blk_drewN ?_ _|refine blk_drew ?_|refine blk_alloc ?_ _));exact BK202.out) hkp (fun hs_=>(fun e_=>(Kd.R_ne HO_5.out BK202.out (by decide)) e_) hs_));have n1_:=Aside0.mk (blk_kept (by (with_reducible repeat (first|refine blk_drewN ?_ _|refine blk_drew ?_|refine blk_alloc ?_ _));exact BK203.out) hkp (fun hs_=>(fun e_=>(Kd.R_ne HO_5.out BK203.out (by decide)) e_) hs_));have n2_:=Aside0.mk (blk_kept (by (with_reducible repeat (first|refine blk_drewN ?_ _|refine blk_drew ?_|refine blk_alloc ?_ _));exact BK204.out) hkp (fun hs_=>(fun e_=>(Kd.R_ne HO_5.out BK204.out (by decide)) e_) hs_));have n3_:=Aside0.mk (Kd.R_mono (ok':=fun k_=>True) ho0 (fun k_ hk_=>trivial));have n4_:=Aside0.mk (hb);clear BK202;clear BK203;clear BK204;clear HB;clear HO_5;have BK202:=n0_;have BK203:=n1_;have BK204:=n2_;have HO210:=n3_;have HB:=n4_;clear n0_ n1_ n2_ n3_ n4_;(try clear hb);(try clear hkp);(try clear ho0);obtain ⟨Ao62,co62,eo62⟩:=Kd.R_slice HO210.out;subst eo62;have hnb63:=NB204_203.out;have hnc63:=NB203_204.out;have hcz64_0:w61.cell? ⟨gb204,0,none⟩=some (.bool false):=(blk_cell BK204.out 0).trans rfl;have hcz64_1:w61.cell? ⟨gb204,1,none⟩=some (.slice none 0 0):=(blk_cell BK204.out 1).trans rfl;have hfz64_0:=blk_frozen BK204.out 0;have hfz64_1:=blk_frozen BK204.out 1))
           refine bodyPost_ret (results_cell_row rfl _ _ gb204 73 #[.bool false,.slice Ao62 t208.length co62] (0,0) _ rfl (by (with_reducible repeat (first|refine blk_drewN ?_ _|refine blk_drew ?_|refine blk_alloc ?_ _));refine blk_put (cs:=#[.bool false,.slice none 0 0]) ?_ 1 _ rfl;(with_reducible repeat (first|refine blk_drewN ?_ _|refine blk_drew ?_|refine blk_alloc ?_ _));refine blk_put (cs:=#[.bool false,.slice none 0 0]) ?_ 0 _ rfl;(with_reducible repeat (first|refine blk_drewN ?_ _|refine blk_drew ?_|refine blk_alloc ?_ _));exact BK204.out) Try.underlying73 rfl (by kernel_rfl)) rfl ?_
           exact ⟨_,by first|rfl|(simp [errW_none,errW_some]<;>rfl)|(simp only [← hji3];first|rfl|(simp [errW_none,errW_some]<;>rfl))|(simp [*,errW_none,errW_some]<;>rfl),by (with_reducible repeat (first|apply Kd.R_alloc|apply Kd.R_drewN|apply Kd.R_drew));exact Kd.R_mono (Kd.R_far (p:=⟨gb204,1,none⟩) (Kd.R_far (p:=⟨gb204,0,none⟩) (Kd.R_types HO210.out BK204.out (by decide)) (fun _ hk=>hk.2) (.bool false)) (fun _ hk=>hk.2) (.slice Ao62 t208.length co62)) (fun _ hk=>trivial),by repeat (with_reducible first|exact HB.out|apply below_alloc|apply pw_below_drewN|apply below_drew1|refine below_set ?_ GE202.out|refine below_set ?_ GE203.out|refine below_set ?_ GE204.out)⟩
   · rw [if_neg c5] at H
     exact absurd H (by simp)
 · rw [if_neg c4] at H
   exact absurd H (by simp)
def octroiref01_Cmp.f (k:Nat) (a0_0:Bool) (l0_1:List Int) (a1_0:Bool) (l1_1:List Int):Option (Int):=if (a0_0 != a1_0)=true then (if a0_0=true then (some (-1)) else (some 1)) else ((octroiref01_cmp.f k l0_1 l1_1).bind fun t221=>(if a0_0=true then (some (wrap64 (-t221))) else (some t221)))
set_option maxHeartbeats 8000000 in
set_option maxRecDepth 100000 in
theorem octroiref01_Cmp.calls (k:Nat) (a0_0:Bool) (A0_1:Option Addr) (c0_1:Nat) (l0_1:List Int) (a1_0:Bool) (A1_1:Option Addr) (c1_1:Nat) (l1_1:List Int) (r:Int) (w:World) (hr0_1:Kd.C (Kd.int .i64) w A0_1 l0_1.length l0_1) (hc0_1:l0_1.length≤c0_1) (hr1_1:Kd.C (Kd.int .i64) w A1_1 l1_1.length l1_1) (hc1_1:l1_1.length≤c1_1) (h:octroiref01_Cmp.f k a0_0 l0_1 a1_0 l1_1=some r) :
 Calls Try.prog 45 #[.agg #[.bool a0_0,.slice A0_1 l0_1.length c0_1],.agg #[.bool a1_0,.slice A1_1 l1_1.length c1_1]] w fun e w'=>e = .returned (.int .i64 r)∧Below w.heap.size w w':=by
 have hu73:=Try.underlying73
 have HR0_1:=Aside0.mk hr0_1
 have HC0_1:=Aside0.mk hc0_1
 clear hr0_1 hc0_1
 have HR1_1:=Aside0.mk hr1_1
 have HC1_1:=Aside0.mk hc1_1
 clear hr1_1 hc1_1
 have HB:=Aside0.mk (Below.refl w.heap.size w)
 have H:(if (a0_0 != a1_0)=true then (if a0_0=true then (some (-1)) else (some 1)) else ((octroiref01_cmp.f k l0_1 l1_1).bind fun t221=>(if a0_0=true then (some (wrap64 (-t221))) else (some t221))))=some r:=h
 clear h
 by_cases c3:(a0_0 != a1_0)=true
 · rw [if_pos c3] at H
   have c3b0:(a0_0 != a1_0)=true:=c3
   (try (have c3b1:decide (a0_0=a1_0)=false:=by simpa using c3))
   (try (have c3b2:(a0_0 == a1_0)=false:=by simpa using c3))
   (try (have c3b3:¬ (a0_0=a1_0):=by simpa using c3))
   clear c3
   by_cases c4:a0_0=true
   · subst c4
     have H1:(some (-1))=some r:=by rw [if_pos rfl] at H;exact H
     clear H
     have H:=H1
     clear H1
     obtain rfl:=Option.some.inj H
     go_enter Try.func45,Try.ntmps45
     go_wp2_with (first|((with_reducible refine gate_dst (N:=2) rfl ?_);refine box_event ?hg (N:=2) ?hd (cs:=#[.bool true,.slice A0_1 l0_1.length c0_1]) (t:=73) ?hr ?_;(case hd=>rfl);(case hg=>rfl);(case hr=>first|(go_simp;done)|(go_simp;rfl));intro gb219 hg w5 hbox hb;have n0_:=Aside0.mk (below_step (by repeat (with_reducible first|exact HB.out|apply below_alloc|apply pw_below_drewN|apply below_drew1)) hb);have n1_:=Aside0.mk (hbox);have n2_:=Aside0.mk ((by rw [hg];exact (below_size (by repeat (with_reducible first|exact HB.out|apply below_alloc|apply pw_below_drewN|apply below_drew1))):w.heap.size≤gb219));have n3_:=Aside0.mk ((by rw [hg];exact (below_size (by repeat (with_reducible first|exact HB.out|apply below_alloc|apply pw_below_drewN|apply below_drew1))):w.heap.size≤gb219));clear HB;have HB:=n0_;have BK219:=n1_;have GW219:=n2_;have GE219:=n3_;clear n0_ n1_ n2_ n3_;clear hb hbox hg)|((with_reducible refine gate_dst (N:=3) rfl ?_);refine box_event ?hg (N:=3) ?hd (cs:=#[.bool a1_0,.slice A1_1 l1_1.length c1_1]) (t:=73) ?hr ?_;(case hd=>rfl);(case hg=>rfl);(case hr=>first|(go_simp;done)|(go_simp;rfl));intro gb220 hg w6 hbox hb;have n0_:=Aside0.mk (blk_below (g:=gb219) (o:=.cells #[.bool true,.slice A0_1 l0_1.length c0_1] 73 (0,0)) (by (with_reducible repeat (first|refine blk_drewN ?_ _|refine blk_drew ?_|refine blk_alloc ?_ _));exact BK219.out) hb);have n1_:=Aside0.mk (below_step (by repeat (with_reducible first|exact HB.out|apply below_alloc|apply pw_below_drewN|apply below_drew1|refine below_set ?_ GE219.out)) hb);have n2_:=Aside0.mk (hbox);have n3_:=Aside0.mk ((by rw [hg];exact (below_size (by repeat (with_reducible first|exact HB.out|apply below_alloc|apply pw_below_drewN|apply below_drew1|refine below_set ?_ GE219.out))):w.heap.size≤gb220));have n4_:=Aside0.mk ((by rw [hg];exact (below_size (by repeat (with_reducible first|exact HB.out|apply below_alloc|apply pw_below_drewN|apply below_drew1|refine below_set ?_ GE219.out))):w.heap.size≤gb220));have n5_:=Aside0.mk ((by rw [hg];exact Nat.ne_of_lt (blk_lt (g:=gb219) (o:=.cells #[.bool true,.slice A0_1 l0_1.length c0_1] 73 (0,0)) (by (with_reducible repeat (first|refine blk_drewN ?_ _|refine blk_drew ?_|refine blk_alloc ?_ _));exact BK219.out)):gb219≠gb220));have n6_:=Aside0.mk ((by rw [hg];exact Nat.ne_of_gt (blk_lt (g:=gb219) (o:=.cells #[.bool true,.slice A0_1 l0_1.length c0_1] 73 (0,0)) (by (with_reducible repeat (first|refine blk_drewN ?_ _|refine blk_drew ?_|refine blk_alloc ?_ _));exact BK219.out)):gb220≠gb219));clear BK219;clear HB;have BK219:=n0_;have HB:=n1_;have BK220:=n2_;have GW220:=n3_;have GE220:=n4_;have NB219_220:=n5_;have NB220_219:=n6_;clear n0_ n1_ n2_ n3_ n4_ n5_ n6_;clear hb hbox hg;have hnb7:=NB219_220.out;have hnc7:=NB220_219.out;have hcz8_0:w6.cell? ⟨gb219,0,none⟩=some (.bool true):=(blk_cell BK219.out 0).trans rfl;have hcz8_1:w6.cell? ⟨gb219,1,none⟩=some (.slice A0_1 l0_1.length c0_1):=(blk_cell BK219.out 1).trans rfl;have hfz8_0:=blk_frozen BK219.out 0;have hfz8_1:=blk_frozen BK219.out 1;have hcz9_0:w6.cell? ⟨gb220,0,none⟩=some (.bool a1_0):=(blk_cell BK220.out 0).trans rfl;have hcz9_1:w6.cell? ⟨gb220,1,none⟩=some (.slice A1_1 l1_1.length c1_1):=(blk_cell BK220.out 1).trans rfl;have hfz9_0:=blk_frozen BK220.out 0;have hfz9_1:=blk_frozen BK220.out 1))
     go_ret
     exact ⟨by first|rfl|(simp [errW_none,errW_some]<;>rfl)|(simp [*,errW_none,errW_some]<;>rfl),by repeat (with_reducible first|exact HB.out|apply below_alloc|apply pw_below_drewN|apply below_drew1|refine below_set ?_ GE219.out|refine below_set ?_ GE220.out)⟩
   · replace c4:=Bool.eq_false_iff.mpr c4
     subst c4
     have H1:(some 1)=some r:=by rw [if_neg (show ¬ (false=true) by decide)] at H;exact H
     clear H
     have H:=H1
     clear H1
     obtain rfl:=Option.some.inj H
     go_enter Try.func45,Try.ntmps45
     go_wp2_with (first|((with_reducible refine gate_dst (N:=2) rfl ?_);refine box_event ?hg (N:=2) ?hd (cs:=#[.bool false,.slice A0_1 l0_1.length c0_1]) (t:=73) ?hr ?_;(case hd=>rfl);(case hg=>rfl);(case hr=>first|(go_simp;done)|(go_simp;rfl));intro gb219 hg w10 hbox hb;have n0_:=Aside0.mk (below_step (by repeat (with_reducible first|exact HB.out|apply below_alloc|apply pw_below_drewN|apply below_drew1)) hb);have n1_:=Aside0.mk (hbox);have n2_:=Aside0.mk ((by rw [hg];exact (below_size (by repeat (with_reducible first|exact HB.out|apply below_alloc|apply pw_below_drewN|apply below_drew1))):w.heap.size≤gb219));have n3_:=Aside0.mk ((by rw [hg];exact (below_size (by repeat (with_reducible first|exact HB.out|apply below_alloc|apply pw_below_drewN|apply below_drew1))):w.heap.size≤gb219));clear HB;have HB:=n0_;have BK219:=n1_;have GW219:=n2_;have GE219:=n3_;clear n0_ n1_ n2_ n3_;clear hb hbox hg)|((with_reducible refine gate_dst (N:=3) rfl ?_);refine box_event ?hg (N:=3) ?hd (cs:=#[.bool a1_0,.slice A1_1 l1_1.length c1_1]) (t:=73) ?hr ?_;(case hd=>rfl);(case hg=>rfl);(case hr=>first|(go_simp;done)|(go_simp;rfl));intro gb220 hg w11 hbox hb;have n0_:=Aside0.mk (blk_below (g:=gb219) (o:=.cells #[.bool false,.slice A0_1 l0_1.length c0_1] 73 (0,0)) (by (with_reducible repeat (first|refine blk_drewN ?_ _|refine blk_drew ?_|refine blk_alloc ?_ _));exact BK219.out) hb);have n1_:=Aside0.mk (below_step (by repeat (with_reducible first|exact HB.out|apply below_alloc|apply pw_below_drewN|apply below_drew1|refine below_set ?_ GE219.out)) hb);have n2_:=Aside0.mk (hbox);have n3_:=Aside0.mk ((by rw [hg];exact (below_size (by repeat (with_reducible first|exact HB.out|apply below_alloc|apply pw_below_drewN|apply below_drew1|refine below_set ?_ GE219.out))):w.heap.size≤gb220));have n4_:=Aside0.mk ((by rw [hg];exact (below_size (by repeat (with_reducible first|exact HB.out|apply below_alloc|apply pw_below_drewN|apply below_drew1|refine below_set ?_ GE219.out))):w.heap.size≤gb220));have n5_:=Aside0.mk ((by rw [hg];exact Nat.ne_of_lt (blk_lt (g:=gb219) (o:=.cells #[.bool false,.slice A0_1 l0_1.length c0_1] 73 (0,0)) (by (with_reducible repeat (first|refine blk_drewN ?_ _|refine blk_drew ?_|refine blk_alloc ?_ _));exact BK219.out)):gb219≠gb220));have n6_:=Aside0.mk ((by rw [hg];exact Nat.ne_of_gt (blk_lt (g:=gb219) (o:=.cells #[.bool false,.slice A0_1 l0_1.length c0_1] 73 (0,0)) (by (with_reducible repeat (first|refine blk_drewN ?_ _|refine blk_drew ?_|refine blk_alloc ?_ _));exact BK219.out)):gb220≠gb219));clear BK219;clear HB;have BK219:=n0_;have HB:=n1_;have BK220:=n2_;have GW220:=n3_;have GE220:=n4_;have NB219_220:=n5_;have NB220_219:=n6_;clear n0_ n1_ n2_ n3_ n4_ n5_ n6_;clear hb hbox hg;have hnb12:=NB219_220.out;have hnc12:=NB220_219.out;have hcz13_0:w11.cell? ⟨gb219,0,none⟩=some (.bool false):=(blk_cell BK219.out 0).trans rfl;have hcz13_1:w11.cell? ⟨gb219,1,none⟩=some (.slice A0_1 l0_1.length c0_1):=(blk_cell BK219.out 1).trans rfl;have hfz13_0:=blk_frozen BK219.out 0;have hfz13_1:=blk_frozen BK219.out 1;have hcz14_0:w11.cell? ⟨gb220,0,none⟩=some (.bool a1_0):=(blk_cell BK220.out 0).trans rfl;have hcz14_1:w11.cell? ⟨gb220,1,none⟩=some (.slice A1_1 l1_1.length c1_1):=(blk_cell BK220.out 1).trans rfl;have hfz14_0:=blk_frozen BK220.out 0;have hfz14_1:=blk_frozen BK220.out 1))
     go_ret
     exact ⟨by first|rfl|(simp [errW_none,errW_some]<;>rfl)|(simp [*,errW_none,errW_some]<;>rfl),by repeat (with_reducible first|exact HB.out|apply below_alloc|apply pw_below_drewN|apply below_drew1|refine below_set ?_ GE219.out|refine below_set ?_ GE220.out)⟩
 · rw [if_neg c3] at H
   have c3b0:(a0_0 != a1_0)=false:=by simpa using c3
   (try (have c3b1:decide (a0_0=a1_0)=true:=by simpa using c3))
   (try (have c3b2:(a0_0 == a1_0)=true:=by simpa using c3))
   clear c3
   replace H:=Option.bind_eq_some_iff.mp H
   obtain ⟨t221,A150,H⟩:=H
   replace H:(if a0_0=true then (some (wrap64 (-t221))) else (some t221))=some r:=H
   have A15:=Aside0.mk A150
   clear A150
   by_cases c16:a0_0=true
   · subst c16
     have H1:(some (wrap64 (-t221)))=some r:=by rw [if_pos rfl] at H;exact H
     clear H
     have H:=H1
     clear H1
     obtain rfl:=Option.some.inj H
     go_enter Try.func45,Try.ntmps45
     go_wp2_with (first|((with_reducible refine gate_dst (N:=2) rfl ?_);refine box_event ?hg (N:=2) ?hd (cs:=#[.bool true,.slice A0_1 l0_1.length c0_1]) (t:=73) ?hr ?_;(case hd=>rfl);(case hg=>rfl);(case hr=>first|(go_simp;done)|(go_simp;rfl));intro gb219 hg w17 hbox hb;have n0_:=Aside0.mk (below_step (by repeat (with_reducible first|exact HB.out|apply below_alloc|apply pw_below_drewN|apply below_drew1)) hb);have n1_:=Aside0.mk (hbox);have n2_:=Aside0.mk ((by rw [hg];exact (below_size (by repeat (with_reducible first|exact HB.out|apply below_alloc|apply pw_below_drewN|apply below_drew1))):w.heap.size≤gb219));have n3_:=Aside0.mk ((by rw [hg];exact (below_size (by repeat (with_reducible first|exact HB.out|apply below_alloc|apply pw_below_drewN|apply below_drew1))):w.heap.size≤gb219));clear HB;have HB:=n0_;have BK219:=n1_;have GW219:=n2_;have GE219:=n3_;clear n0_ n1_ n2_ n3_;clear hb hbox hg)|((with_reducible refine gate_dst (N:=3) rfl ?_);refine box_event ?hg (N:=3) ?hd (cs:=#[.bool a1_0,.slice A1_1 l1_1.length c1_1]) (t:=73) ?hr ?_;(case hd=>rfl);(case hg=>rfl);(case hr=>first|(go_simp;done)|(go_simp;rfl));intro gb220 hg w18 hbox hb;have n0_:=Aside0.mk (blk_below (g:=gb219) (o:=.cells #[.bool true,.slice A0_1 l0_1.length c0_1] 73 (0,0)) (by (with_reducible repeat (first|refine blk_drewN ?_ _|refine blk_drew ?_|refine blk_alloc ?_ _));exact BK219.out) hb);have n1_:=Aside0.mk (below_step (by repeat (with_reducible first|exact HB.out|apply below_alloc|apply pw_below_drewN|apply below_drew1|refine below_set ?_ GE219.out)) hb);have n2_:=Aside0.mk (hbox);have n3_:=Aside0.mk ((by rw [hg];exact (below_size (by repeat (with_reducible first|exact HB.out|apply below_alloc|apply pw_below_drewN|apply below_drew1|refine below_set ?_ GE219.out))):w.heap.size≤gb220));have n4_:=Aside0.mk ((by rw [hg];exact (below_size (by repeat (with_reducible first|exact HB.out|apply below_alloc|apply pw_below_drewN|apply below_drew1|refine below_set ?_ GE219.out))):w.heap.size≤gb220));have n5_:=Aside0.mk ((by rw [hg];exact Nat.ne_of_lt (blk_lt (g:=gb219) (o:=.cells #[.bool true,.slice A0_1 l0_1.length c0_1] 73 (0,0)) (by (with_reducible repeat (first|refine blk_drewN ?_ _|refine blk_drew ?_|refine blk_alloc ?_ _));exact BK219.out)):gb219≠gb220));have n6_:=Aside0.mk ((by rw [hg];exact Nat.ne_of_gt (blk_lt (g:=gb219) (o:=.cells #[.bool true,.slice A0_1 l0_1.length c0_1] 73 (0,0)) (by (with_reducible repeat (first|refine blk_drewN ?_ _|refine blk_drew ?_|refine blk_alloc ?_ _));exact BK219.out)):gb220≠gb219));clear BK219;clear HB;have BK219:=n0_;have HB:=n1_;have BK220:=n2_;have GW220:=n3_;have GE220:=n4_;have NB219_220:=n5_;have NB220_219:=n6_;clear n0_ n1_ n2_ n3_ n4_ n5_ n6_;clear hb hbox hg;have hnb19:=NB219_220.out;have hnc19:=NB220_219.out;have hcz20_0:w18.cell? ⟨gb219,0,none⟩=some (.bool true):=(blk_cell BK219.out 0).trans rfl;have hcz20_1:w18.cell? ⟨gb219,1,none⟩=some (.slice A0_1 l0_1.length c0_1):=(blk_cell BK219.out 1).trans rfl;have hfz20_0:=blk_frozen BK219.out 0;have hfz20_1:=blk_frozen BK219.out 1;have hcz21_0:w18.cell? ⟨gb220,0,none⟩=some (.bool a1_0):=(blk_cell BK220.out 0).trans rfl;have hcz21_1:w18.cell? ⟨gb220,1,none⟩=some (.slice A1_1 l1_1.length c1_1):=(blk_cell BK220.out 1).trans rfl;have hfz21_0:=blk_frozen BK220.out 0;have hfz21_1:=blk_frozen BK220.out 1)|((with_reducible refine gate_callee (f:=47) rfl ?_);refine goesL_ (some 17) rfl rfl Try.func47 (by kernel_rfl) rfl #[.slice A0_1 l0_1.length c0_1,.slice A1_1 l1_1.length c1_1] rfl (by (try simp only [List.map_toArray,List.map_cons,List.map_nil]);first|done|rfl|(simp only [List.length_drop,List.length_take];rfl)) ?_;(with_reducible refine (octroiref01_cmp.calls k _ _ l0_1 _ _ l1_1 t221 _ ?side1 ?side2 ?side3 ?side4 A15.out).mono ?_);(case side1=>repeat (first|exact (Kd.C_below HR0_1.out HB.out)|(with_reducible refine Kd.C_alloc ?_ _)|(with_reducible refine Kd.C_drewN ?_ _)|(with_reducible refine Kd.C_drew ?_)));(case side2=>exact HC0_1.out);(case side3=>repeat (first|exact (Kd.C_below HR1_1.out HB.out)|(with_reducible refine Kd.C_alloc ?_ _)|(with_reducible refine Kd.C_drewN ?_ _)|(with_reducible refine Kd.C_drew ?_)));(case side4=>exact HC1_1.out);rintro e w' ⟨rfl,⟨nd,rfl⟩⟩;refine ⟨_,rfl,?_⟩))
     go_ret
     exact ⟨by first|rfl|(simp [errW_none,errW_some]<;>rfl)|(simp [*,errW_none,errW_some]<;>rfl),by repeat (with_reducible first|exact HB.out|apply below_alloc|apply pw_below_drewN|apply below_drew1|refine below_set ?_ GE219.out|refine below_set ?_ GE220.out)⟩
   · replace c16:=Bool.eq_false_iff.mpr c16
     subst c16
     have H1:(some t221)=some r:=by rw [if_neg (show ¬ (false=true) by decide)] at H;exact H
     clear H
     have H:=H1
     clear H1
     obtain rfl:=Option.some.inj H
     go_enter Try.func45,Try.ntmps45
     go_wp2_with (first|((with_reducible refine gate_dst (N:=2) rfl ?_);refine box_event ?hg (N:=2) ?hd (cs:=#[.bool false,.slice A0_1 l0_1.length c0_1]) (t:=73) ?hr ?_;(case hd=>rfl);(case hg=>rfl);(case hr=>first|(go_simp;done)|(go_simp;rfl));intro gb219 hg w22 hbox hb;have n0_:=Aside0.mk (below_step (by repeat (with_reducible first|exact HB.out|apply below_alloc|apply pw_below_drewN|apply below_drew1)) hb);have n1_:=Aside0.mk (hbox);have n2_:=Aside0.mk ((by rw [hg];exact (below_size (by repeat (with_reducible first|exact HB.out|apply below_alloc|apply pw_below_drewN|apply below_drew1))):w.heap.size≤gb219));have n3_:=Aside0.mk ((by rw [hg];exact (below_size (by repeat (with_reducible first|exact HB.out|apply below_alloc|apply pw_below_drewN|apply below_drew1))):w.heap.size≤gb219));clear HB;have HB:=n0_;have BK219:=n1_;have GW219:=n2_;have GE219:=n3_;clear n0_ n1_ n2_ n3_;clear hb hbox hg)|((with_reducible refine gate_dst (N:=3) rfl ?_);refine box_event ?hg (N:=3) ?hd (cs:=#[.bool a1_0,.slice A1_1 l1_1.length c1_1]) (t:=73) ?hr ?_;(case hd=>rfl);(case hg=>rfl);(case hr=>first|(go_simp;done)|(go_simp;rfl));intro gb220 hg w23 hbox hb;have n0_:=Aside0.mk (blk_below (g:=gb219) (o:=.cells #[.bool false,.slice A0_1 l0_1.length c0_1] 73 (0,0)) (by (with_reducible repeat (first|refine blk_drewN ?_ _|refine blk_drew ?_|refine blk_alloc ?_ _));exact BK219.out) hb);have n1_:=Aside0.mk (below_step (by repeat (with_reducible first|exact HB.out|apply below_alloc|apply pw_below_drewN|apply below_drew1|refine below_set ?_ GE219.out)) hb);have n2_:=Aside0.mk (hbox);have n3_:=Aside0.mk ((by rw [hg];exact (below_size (by repeat (with_reducible first|exact HB.out|apply below_alloc|apply pw_below_drewN|apply below_drew1|refine below_set ?_ GE219.out))):w.heap.size≤gb220));have n4_:=Aside0.mk ((by rw [hg];exact (below_size (by repeat (with_reducible first|exact HB.out|apply below_alloc|apply pw_below_drewN|apply below_drew1|refine below_set ?_ GE219.out))):w.heap.size≤gb220));have n5_:=Aside0.mk ((by rw [hg];exact Nat.ne_of_lt (blk_lt (g:=gb219) (o:=.cells #[.bool false,.slice A0_1 l0_1.length c0_1] 73 (0,0)) (by (with_reducible repeat (first|refine blk_drewN ?_ _|refine blk_drew ?_|refine blk_alloc ?_ _));exact BK219.out)):gb219≠gb220));have n6_:=Aside0.mk ((by rw [hg];exact Nat.ne_of_gt (blk_lt (g:=gb219) (o:=.cells #[.bool false,.slice A0_1 l0_1.length c0_1] 73 (0,0)) (by (with_reducible repeat (first|refine blk_drewN ?_ _|refine blk_drew ?_|refine blk_alloc ?_ _));exact BK219.out)):gb220≠gb219));clear BK219;clear HB;have BK219:=n0_;have HB:=n1_;have BK220:=n2_;have GW220:=n3_;have GE220:=n4_;have NB219_220:=n5_;have NB220_219:=n6_;clear n0_ n1_ n2_ n3_ n4_ n5_ n6_;clear hb hbox hg;have hnb24:=NB219_220.out;have hnc24:=NB220_219.out;have hcz25_0:w23.cell? ⟨gb219,0,none⟩=some (.bool false):=(blk_cell BK219.out 0).trans rfl;have hcz25_1:w23.cell? ⟨gb219,1,none⟩=some (.slice A0_1 l0_1.length c0_1):=(blk_cell BK219.out 1).trans rfl;have hfz25_0:=blk_frozen BK219.out 0;have hfz25_1:=blk_frozen BK219.out 1;have hcz26_0:w23.cell? ⟨gb220,0,none⟩=some (.bool a1_0):=(blk_cell BK220.out 0).trans rfl;have hcz26_1:w23.cell? ⟨gb220,1,none⟩=some (.slice A1_1 l1_1.length c1_1):=(blk_cell BK220.out 1).trans rfl;have hfz26_0:=blk_frozen BK220.out 0;have hfz26_1:=blk_frozen BK220.out 1)|((with_reducible refine gate_callee (f:=47) rfl ?_);refine goesL_ (some 17) rfl rfl Try.func47 (by kernel_rfl) rfl #[.slice A0_1 l0_1.length c0_1,.slice A1_1 l1_1.length c1_1] rfl (by (try simp only [List.map_toArray,List.map_cons,List.map_nil]);first|done|rfl|(simp only [List.length_drop,List.length_take];rfl)) ?_;(with_reducible refine (octroiref01_cmp.calls k _ _ l0_1 _ _ l1_1 t221 _ ?side1 ?side2 ?side3 ?side4 A15.out).mono ?_);(case side1=>repeat (first|exact (Kd.C_below HR0_1.out HB.out)|(with_reducible refine Kd.C_alloc ?_ _)|(with_reducible refine Kd.C_drewN ?_ _)|(with_reducible refine Kd.C_drew ?_)));(case side2=>exact HC0_1.out);(case side3=>repeat (first|exact (Kd.C_below HR1_1.out HB.out)|(with_reducible refine Kd.C_alloc ?_ _)|(with_reducible refine Kd.C_drewN ?_ _)|(with_reducible refine Kd.C_drew ?_)));(case side4=>exact HC1_1.out);rintro e w' ⟨rfl,⟨nd,rfl⟩⟩;refine ⟨_,rfl,?_⟩))
     go_ret
     exact ⟨by first|rfl|(simp [errW_none,errW_some]<;>rfl)|(simp [*,errW_none,errW_some]<;>rfl),by repeat (with_reducible first|exact HB.out|apply below_alloc|apply pw_below_drewN|apply below_drew1|refine below_set ?_ GE219.out|refine below_set ?_ GE220.out)⟩
end Go.Proofs.Ytlfkfajodnkkhaa.Print
