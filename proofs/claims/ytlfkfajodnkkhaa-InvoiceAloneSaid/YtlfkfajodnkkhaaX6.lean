/- A text of this seat. -/
import Derived.Test.YtlfkfajodnkkhaaX0
import Derived.Test.YtlfkfajodnkkhaaX3
import Derived.Test.YtlfkfajodnkkhaaX5
namespace Go.Proofs.Ytlfkfajodnkkhaa.Print
open Go.RowKit Go.Proofs.YtlfkfajodnkkhaaW.PrintWords Go.Proofs.YtlfkfajodnkkhaaW.PrintLast Go.Proofs.YtlfkfajodnkkhaaW.PrintMore
attribute [local go_sem] max2_int min2_int max_two min_two max_three min_three max_four min_four   -- for this text's walks alone
set_option linter.unusedVariables false
set_option linter.unusedSimpArgs false
def octroiref02_half.l0:Nat→Int→Int→Bool→List Int→Bool→List Int→Option (Int)
 | 0,_,_,_,_,_,_=>none
 | k+1,x7,x8,x223000,x223001,x236000,x236001=>if x7<x8 then ((octroiref01_Of.f k (wrap64 (x8 - (wrap64 (Int.tdiv (wrap64 (x8 - x7)) 2))))).bind fun bt245=>((octroiref01_Mul.f k bt245.1 bt245.2 x236000 x236001).bind fun bt249=>((octroiref01_Cmp.f k bt249.1 bt249.2 x223000 x223001).bind fun t253=>(if t253≤0 then (octroiref02_half.l0 k (wrap64 (x8 - (wrap64 (Int.tdiv (wrap64 (x8 - x7)) 2)))) x8 x223000 x223001 x236000 x236001) else (octroiref02_half.l0 k x7 (wrap64 ((wrap64 (x8 - (wrap64 (Int.tdiv (wrap64 (x8 - x7)) 2)))) - 1)) x223000 x223001 x236000 x236001))))) else (some x7)
def octroiref02_half.f (k:Nat) (a0_0:Bool) (l0_1:List Int) (a1:Int):Option (Int):=(octroiref01_Of.f k a1).bind fun bt223=>((octroiref01_Of.f k 2).bind fun bt227=>((octroiref01_Mul.f k bt223.1 bt223.2 bt227.1 bt227.2).bind fun bt231=>((octroiref01_Of.f k 4611686018427387905).bind fun bt236=>((octroiref01_Mul.f k bt236.1 bt236.2 bt231.1 bt231.2).bind fun bt240=>((octroiref01_Cmp.f k bt240.1 bt240.2 a0_0 l0_1).bind fun t244=>(if t244≤0 then (some (-1)) else (octroiref02_half.l0 k 0 4611686018427387905 a0_0 l0_1 bt231.1 bt231.2)))))))
set_option maxHeartbeats 8000000 in
set_option maxRecDepth 100000 in
theorem octroiref02_half.calls (k:Nat) (a0_0:Bool) (A0_1:Option Addr) (c0_1:Nat) (l0_1:List Int) (a1:Int) (r:Int) (w:World) (hr0_1:Kd.C (Kd.int .i64) w A0_1 l0_1.length l0_1) (hc0_1:l0_1.length≤c0_1) (h:octroiref02_half.f k a0_0 l0_1 a1=some r) :
 Calls Try.prog 60 #[.agg #[.bool a0_0,.slice A0_1 l0_1.length c0_1],.int .i64 a1] w fun e w'=>e = .returned (.int .i64 r)∧Below w.heap.size w w':=by
 have hu73:=Try.underlying73
 have HR0_1:=Aside0.mk hr0_1
 have HC0_1:=Aside0.mk hc0_1
 clear hr0_1 hc0_1
 have HB:=Aside0.mk (Below.refl w.heap.size w)
 have H:((octroiref01_Of.f k a1).bind fun bt223=>((octroiref01_Of.f k 2).bind fun bt227=>((octroiref01_Mul.f k bt223.1 bt223.2 bt227.1 bt227.2).bind fun bt231=>((octroiref01_Of.f k 4611686018427387905).bind fun bt236=>((octroiref01_Mul.f k bt236.1 bt236.2 bt231.1 bt231.2).bind fun bt240=>((octroiref01_Cmp.f k bt240.1 bt240.2 a0_0 l0_1).bind fun t244=>(if t244≤0 then (some (-1)) else (octroiref02_half.l0 k 0 4611686018427387905 a0_0 l0_1 bt231.1 bt231.2))))))))=some r:=h
 clear h
 replace H:=Option.bind_eq_some_iff.mp H
 obtain ⟨⟨t223,t224⟩,A30,H⟩:=H
 replace H:((octroiref01_Of.f k 2).bind fun bt227=>((octroiref01_Mul.f k t223 t224 bt227.1 bt227.2).bind fun bt231=>((octroiref01_Of.f k 4611686018427387905).bind fun bt236=>((octroiref01_Mul.f k bt236.1 bt236.2 bt231.1 bt231.2).bind fun bt240=>((octroiref01_Cmp.f k bt240.1 bt240.2 a0_0 l0_1).bind fun t244=>(if t244≤0 then (some (-1)) else (octroiref02_half.l0 k 0 4611686018427387905 a0_0 l0_1 bt231.1 bt231.2)))))))=some r:=H
 have A3:=Aside0.mk A30
 clear A30
 replace H:=Option.bind_eq_some_iff.mp H
 obtain ⟨⟨t227,t228⟩,A40,H⟩:=H
 replace H:((octroiref01_Mul.f k t223 t224 t227 t228).bind fun bt231=>((octroiref01_Of.f k 4611686018427387905).bind fun bt236=>((octroiref01_Mul.f k bt236.1 bt236.2 bt231.1 bt231.2).bind fun bt240=>((octroiref01_Cmp.f k bt240.1 bt240.2 a0_0 l0_1).bind fun t244=>(if t244≤0 then (some (-1)) else (octroiref02_half.l0 k 0 4611686018427387905 a0_0 l0_1 bt231.1 bt231.2))))))=some r:=H
 have A4:=Aside0.mk A40
 clear A40
 replace H:=Option.bind_eq_some_iff.mp H
 obtain ⟨⟨t231,t232⟩,A50,H⟩:=H
 replace H:((octroiref01_Of.f k 4611686018427387905).bind fun bt236=>((octroiref01_Mul.f k bt236.1 bt236.2 t231 t232).bind fun bt240=>((octroiref01_Cmp.f k bt240.1 bt240.2 a0_0 l0_1).bind fun t244=>(if t244≤0 then (some (-1)) else (octroiref02_half.l0 k 0 4611686018427387905 a0_0 l0_1 t231 t232)))))=some r:=H
 have A5:=Aside0.mk A50
 clear A50
 replace H:=Option.bind_eq_some_iff.mp H
 obtain ⟨⟨t236,t237⟩,A60,H⟩:=H
 replace H:((octroiref01_Mul.f k t236 t237 t231 t232).bind fun bt240=>((octroiref01_Cmp.f k bt240.1 bt240.2 a0_0 l0_1).bind fun t244=>(if t244≤0 then (some (-1)) else (octroiref02_half.l0 k 0 4611686018427387905 a0_0 l0_1 t231 t232))))=some r:=H
 have A6:=Aside0.mk A60
 clear A60
 replace H:=Option.bind_eq_some_iff.mp H
 obtain ⟨⟨t240,t241⟩,A70,H⟩:=H
 replace H:((octroiref01_Cmp.f k t240 t241 a0_0 l0_1).bind fun t244=>(if t244≤0 then (some (-1)) else (octroiref02_half.l0 k 0 4611686018427387905 a0_0 l0_1 t231 t232)))=some r:=H
 have A7:=Aside0.mk A70
 clear A70
 replace H:=Option.bind_eq_some_iff.mp H
 obtain ⟨t244,A80,H⟩:=H
 replace H:(if t244≤0 then (some (-1)) else (octroiref02_half.l0 k 0 4611686018427387905 a0_0 l0_1 t231 t232))=some r:=H
 have A8:=Aside0.mk A80
 clear A80
 by_cases c9:t244≤0
 · rw [if_pos c9] at H
   have c9b0:decide (t244≤0)=true:=decide_eq_true c9
   clear c9
   obtain rfl:=Option.some.inj H
   go_enter Try.func60,Try.ntmps60
   try go_wp2_with (first|((with_reducible refine gate_dst (N:=2) rfl ?_);refine box_event ?hg (N:=2) ?hd (cs:=#[.bool a0_0,.slice A0_1 l0_1.length c0_1]) (t:=73) ?hr ?_;(case hd=>rfl);(case hg=>rfl);(case hr=>first|(go_simp;done)|(go_simp;rfl));intro gb222 hg w10 hbox hb;have n0_:=Aside0.mk (below_step (by repeat (with_reducible first|exact HB.out|apply below_alloc|apply pw_below_drewN|apply below_drew1)) hb);have n1_:=Aside0.mk (hbox);have n2_:=Aside0.mk ((by rw [hg];exact (below_size (by repeat (with_reducible first|exact HB.out|apply below_alloc|apply pw_below_drewN|apply below_drew1))):w.heap.size≤gb222));have n3_:=Aside0.mk ((by rw [hg];exact (below_size (by repeat (with_reducible first|exact HB.out|apply below_alloc|apply pw_below_drewN|apply below_drew1))):w.heap.size≤gb222));clear HB;have HB:=n0_;have BK222:=n1_;have GW222:=n2_;have GE222:=n3_;clear n0_ n1_ n2_ n3_;clear hb hbox hg)|((with_reducible refine gate_callee (f:=27) rfl ?_);refine goesL_ (some 11) rfl rfl Try.func27 (by kernel_rfl) rfl #[.int .i64 a1] rfl (by (try simp only [List.map_toArray,List.map_cons,List.map_nil]);first|done|rfl|(simp only [List.length_drop,List.length_take];rfl)) ?_;(with_reducible refine (octroiref01_Of.calls k a1 t223 t224 _ A3.out).mono ?_);rintro e w11 ⟨v225,rfl,ho0,hb⟩;refine ⟨_,rfl,?_⟩;have n0_:=Aside0.mk (Kd.R_lower ho0 (below_size (by repeat (with_reducible first|exact HB.out|apply below_alloc|apply pw_below_drewN|apply below_drew1|refine below_set ?_ GE222.out))));have n1_:=Aside0.mk (blk_below (g:=gb222) (o:=.cells #[.bool a0_0,.slice A0_1 l0_1.length c0_1] 73 (0,0)) (by (with_reducible repeat (first|refine blk_drewN ?_ _|refine blk_drew ?_|refine blk_alloc ?_ _));exact BK222.out) hb);have n2_:=Aside0.mk (below_step (by repeat (with_reducible first|exact HB.out|apply below_alloc|apply pw_below_drewN|apply below_drew1|refine below_set ?_ GE222.out)) hb);clear BK222;clear HB;have HO226:=n0_;have BK222:=n1_;have HB:=n2_;clear n0_ n1_ n2_;(try clear hb);(try clear hb2);(try clear hk);(try clear hi);(try clear ho0))|((with_reducible refine gate_callee (f:=27) rfl ?_);refine goesL_ (some 12) rfl rfl Try.func27 (by kernel_rfl) rfl #[.int .i64 2] rfl (by (try simp only [List.map_toArray,List.map_cons,List.map_nil]);first|done|rfl|(simp only [List.length_drop,List.length_take];rfl)) ?_;(with_reducible refine (octroiref01_Of.calls k 2 t227 t228 _ A4.out).mono ?_);rintro e w12 ⟨v229,rfl,ho0,hb⟩;refine ⟨_,rfl,?_⟩;have n0_:=Aside0.mk (Kd.R_elder' (by (with_reducible repeat (first|apply Kd.R_alloc|apply Kd.R_drewN|apply Kd.R_drew));exact HO226.out) (Kd.R_base ho0) hb);have n1_:=Aside0.mk (Kd.R_lower (Kd.R_new' ho0 (Kd.R_lt (by (with_reducible repeat (first|apply Kd.R_alloc|apply Kd.R_drewN|apply Kd.R_drew));exact HO226.out))) (below_size (by repeat (with_reducible first|exact HB.out|apply below_alloc|apply pw_below_drewN|apply below_drew1|refine below_set ?_ GE222.out))));have n2_:=Aside0.mk (blk_below (g:=gb222) (o:=.cells #[.bool a0_0,.slice A0_1 l0_1.length c0_1] 73 (0,0)) (by (with_reducible repeat (first|refine blk_drewN ?_ _|refine blk_drew ?_|refine blk_alloc ?_ _));exact BK222.out) hb);have n3_:=Aside0.mk (below_step (by repeat (with_reducible first|exact HB.out|apply below_alloc|apply pw_below_drewN|apply below_drew1|refine below_set ?_ GE222.out)) hb);clear HO226;clear BK222;clear HB;have HO226:=n0_;have HO230:=n1_;have BK222:=n2_;have HB:=n3_;clear n0_ n1_ n2_ n3_;(try clear hb);(try clear hb2);(try clear hk);(try clear hi);(try clear ho0);obtain ⟨Ao13,co13,eo13⟩:=Kd.R_slice HO226.out;subst eo13;obtain ⟨Ao14,co14,eo14⟩:=Kd.R_slice HO230.out;subst eo14)|((with_reducible refine gate_callee (f:=58) rfl ?_);refine goesL_ (some 13) rfl rfl Try.func58 (by kernel_rfl) rfl #[.agg #[.bool t223,.slice Ao13 t224.length co13],.agg #[.bool t227,.slice Ao14 t228.length co14]] rfl (by (try simp only [List.map_toArray,List.map_cons,List.map_nil]);first|done|rfl|(simp only [List.length_drop,List.length_take];rfl)) ?_;(with_reducible refine (octroiref01_Mul.calls k t223 _ _ t224 t227 _ _ t228 t231 t232 _ ?side1 ?side2 ?side3 ?side4 A5.out).mono ?_);(case side1=>repeat (first|exact (Kd.R_reads' HO226.out).2.2|(with_reducible refine Kd.C_alloc ?_ _)|(with_reducible refine Kd.C_drewN ?_ _)|(with_reducible refine Kd.C_drew ?_)));(case side2=>exact (Kd.R_reads' HO226.out).2.1);(case side3=>repeat (first|exact (Kd.R_reads' HO230.out).2.2|(with_reducible refine Kd.C_alloc ?_ _)|(with_reducible refine Kd.C_drewN ?_ _)|(with_reducible refine Kd.C_drew ?_)));(case side4=>exact (Kd.R_reads' HO230.out).2.1);rintro e w15 ⟨v233,rfl,ho0,hb⟩;refine ⟨_,rfl,?_⟩;have n0_:=Aside0.mk (Kd.R_elder' (by (with_reducible repeat (first|apply Kd.R_alloc|apply Kd.R_drewN|apply Kd.R_drew));exact HO226.out) (Kd.R_base ho0) hb);have n1_:=Aside0.mk (Kd.R_elder' (by (with_reducible repeat (first|apply Kd.R_alloc|apply Kd.R_drewN|apply Kd.R_drew));exact HO230.out) (Kd.R_base ho0) hb);have n2_:=Aside0.mk (Kd.R_lower (Kd.R_new' (Kd.R_new' ho0 (Kd.R_lt (by (with_reducible repeat (first|apply Kd.R_alloc|apply Kd.R_drewN|apply Kd.R_drew));exact HO226.out))) (Kd.R_lt (by (with_reducible repeat (first|apply Kd.R_alloc|apply Kd.R_drewN|apply Kd.R_drew));exact HO230.out))) (below_size (by repeat (with_reducible first|exact HB.out|apply below_alloc|apply pw_below_drewN|apply below_drew1|refine below_set ?_ GE222.out))));have n3_:=Aside0.mk (blk_below (g:=gb222) (o:=.cells #[.bool a0_0,.slice A0_1 l0_1.length c0_1] 73 (0,0)) (by (with_reducible repeat (first|refine blk_drewN ?_ _|refine blk_drew ?_|refine blk_alloc ?_ _));exact BK222.out) hb);have n4_:=Aside0.mk (below_step (by repeat (with_reducible first|exact HB.out|apply below_alloc|apply pw_below_drewN|apply below_drew1|refine below_set ?_ GE222.out)) hb);clear HO226;clear HO230;clear BK222;clear HB;have HO226:=n0_;have HO230:=n1_;have HO234:=n2_;have BK222:=n3_;have HB:=n4_;clear n0_ n1_ n2_ n3_ n4_;(try clear hb);(try clear hb2);(try clear hk);(try clear hi);(try clear ho0))|((with_reducible refine gate_dst (N:=6) rfl ?_);refine box_event ?hg (N:=6) ?hd (cs:=#[.bool false,.slice none 0 0]) (t:=73) ?hr ?_;(case hd=>rfl);(case hg=>rfl);(case hr=>first|(go_simp;done)|(go_simp;rfl));intro gb235 hg w16 hbox hb;have n0_:=Aside0.mk (Kd.R_below (by (with_reducible repeat (first|apply Kd.R_alloc|apply Kd.R_drewN|apply Kd.R_drew));exact HO226.out) hb);have n1_:=Aside0.mk (Kd.R_below (by (with_reducible repeat (first|apply Kd.R_alloc|apply Kd.R_drewN|apply Kd.R_drew));exact HO230.out) hb);have n2_:=Aside0.mk (Kd.R_below (by (with_reducible repeat (first|apply Kd.R_alloc|apply Kd.R_drewN|apply Kd.R_drew));exact HO234.out) hb);have n3_:=Aside0.mk (blk_below (g:=gb222) (o:=.cells #[.bool a0_0,.slice A0_1 l0_1.length c0_1] 73 (0,0)) (by (with_reducible repeat (first|refine blk_drewN ?_ _|refine blk_drew ?_|refine blk_alloc ?_ _));exact BK222.out) hb);have n4_:=Aside0.mk (below_step (by repeat (with_reducible first|exact HB.out|apply below_alloc|apply pw_below_drewN|apply below_drew1|refine below_set ?_ GE222.out)) hb);have n5_:=Aside0.mk (hbox);have n6_:=Aside0.mk ((by rw [hg];exact (below_size (by repeat (with_reducible first|exact HB.out|apply below_alloc|apply pw_below_drewN|apply below_drew1|refine below_set ?_ GE222.out))):w.heap.size≤gb235));have n7_:=Aside0.mk ((by rw [hg];exact (below_size (by repeat (with_reducible first|exact HB.out|apply below_alloc|apply pw_below_drewN|apply below_drew1|refine below_set ?_ GE222.out))):w.heap.size≤gb235));have n8_:=Aside0.mk ((by rw [hg];exact Nat.ne_of_lt (blk_lt (g:=gb222) (o:=.cells #[.bool a0_0,.slice A0_1 l0_1.length c0_1] 73 (0,0)) (by (with_reducible repeat (first|refine blk_drewN ?_ _|refine blk_drew ?_|refine blk_alloc ?_ _));exact BK222.out)):gb222≠gb235));have n9_:=Aside0.mk ((by rw [hg];exact Nat.ne_of_gt (blk_lt (g:=gb222) (o:=.cells #[.bool a0_0,.slice A0_1 l0_1.length c0_1] 73 (0,0)) (by (with_reducible repeat (first|refine blk_drewN ?_ _|refine blk_drew ?_|refine blk_alloc ?_ _));exact BK222.out)):gb235≠gb222));clear HO226;clear HO230;clear HO234;clear BK222;clear HB;have HO226:=n0_;have HO230:=n1_;have HO234:=n2_;have BK222:=n3_;have HB:=n4_;have BK235:=n5_;have GW235:=n6_;have GE235:=n7_;have NB222_235:=n8_;have NB235_222:=n9_;clear n0_ n1_ n2_ n3_ n4_ n5_ n6_ n7_ n8_ n9_;clear hb hbox hg;have hnb17:=NB235_222.out;have hnc17:=NB222_235.out;have hcz18_0:w16.cell? ⟨gb235,0,none⟩=some (.bool false):=(blk_cell BK235.out 0).trans rfl;have hcz18_1:w16.cell? ⟨gb235,1,none⟩=some (.slice none 0 0):=(blk_cell BK235.out 1).trans rfl;have hfz18_0:=blk_frozen BK235.out 0;have hfz18_1:=blk_frozen BK235.out 1;obtain ⟨Ao19,co19,eo19⟩:=Kd.R_slice HO234.out;subst eo19))
   have n0_:Aside0 (Kd.R (Kd.int .i64) 3 ((w16.setCell ⟨gb235,0,none⟩ (.bool t231)).setCell ⟨gb235,1,none⟩ (.slice Ao19 t232.length co19)) w.heap.size (fun k_=>some k_≠(.slice Ao14 t228.length co14:Value).ownBlock∧some k_≠(.slice Ao19 t232.length co19:Value).ownBlock) (.slice Ao13 t224.length co13) t224):=⟨by (with_reducible repeat (first|apply Kd.R_alloc|apply Kd.R_drewN|apply Kd.R_drew));exact Kd.R_mono (Kd.R_far (p:=⟨gb235,1,none⟩) (Kd.R_far (p:=⟨gb235,0,none⟩) (Kd.R_types HO226.out BK235.out (by decide)) (fun _ hk=>hk.2) (.bool t231)) (fun _ hk=>hk.2) (.slice Ao19 t232.length co19)) (fun _ hk=>⟨hk.1.1.2,hk.1.2⟩)⟩
   have n1_:Aside0 (Kd.R (Kd.int .i64) 3 ((w16.setCell ⟨gb235,0,none⟩ (.bool t231)).setCell ⟨gb235,1,none⟩ (.slice Ao19 t232.length co19)) w.heap.size (fun k_=>some k_≠(.slice Ao13 t224.length co13:Value).ownBlock∧some k_≠(.slice Ao19 t232.length co19:Value).ownBlock) (.slice Ao14 t228.length co14) t228):=⟨by (with_reducible repeat (first|apply Kd.R_alloc|apply Kd.R_drewN|apply Kd.R_drew));exact Kd.R_mono (Kd.R_far (p:=⟨gb235,1,none⟩) (Kd.R_far (p:=⟨gb235,0,none⟩) (Kd.R_types HO230.out BK235.out (by decide)) (fun _ hk=>hk.2) (.bool t231)) (fun _ hk=>hk.2) (.slice Ao19 t232.length co19)) (fun _ hk=>⟨hk.1.1.2,hk.1.2⟩)⟩
   have n2_:Aside0 (Kd.R (Kd.int .i64) 3 ((w16.setCell ⟨gb235,0,none⟩ (.bool t231)).setCell ⟨gb235,1,none⟩ (.slice Ao19 t232.length co19)) w.heap.size (fun k_=>some k_≠(.slice Ao13 t224.length co13:Value).ownBlock∧some k_≠(.slice Ao14 t228.length co14:Value).ownBlock) (.slice Ao19 t232.length co19) t232):=⟨by (with_reducible repeat (first|apply Kd.R_alloc|apply Kd.R_drewN|apply Kd.R_drew));exact Kd.R_mono (Kd.R_far (p:=⟨gb235,1,none⟩) (Kd.R_far (p:=⟨gb235,0,none⟩) (Kd.R_types HO234.out BK235.out (by decide)) (fun _ hk=>hk.2) (.bool t231)) (fun _ hk=>hk.2) (.slice Ao19 t232.length co19)) (fun _ hk=>⟨hk.1.1.2,hk.1.2⟩)⟩
   have n3_:Aside0 (((w16.setCell ⟨gb235,0,none⟩ (.bool t231)).setCell ⟨gb235,1,none⟩ (.slice Ao19 t232.length co19)).heap[gb222]? = some (.cells #[.bool a0_0,.slice A0_1 l0_1.length c0_1] 73 (0,0))):=⟨by (with_reducible repeat (first|refine blk_drewN ?_ _|refine blk_drew ?_|refine blk_alloc ?_ _));refine blk_far ?_ NB222_235.out _;(with_reducible repeat (first|refine blk_drewN ?_ _|refine blk_drew ?_|refine blk_alloc ?_ _));refine blk_far ?_ NB222_235.out _;(with_reducible repeat (first|refine blk_drewN ?_ _|refine blk_drew ?_|refine blk_alloc ?_ _));exact BK222.out⟩
   have n4_:Aside0 (((w16.setCell ⟨gb235,0,none⟩ (.bool t231)).setCell ⟨gb235,1,none⟩ (.slice Ao19 t232.length co19)).heap[gb235]? = some (.cells #[.bool t231,.slice Ao19 t232.length co19] 73 (0,0))):=⟨by (with_reducible repeat (first|refine blk_drewN ?_ _|refine blk_drew ?_|refine blk_alloc ?_ _));refine blk_put (cs:=#[.bool t231,.slice none 0 0]) ?_ 1 _ rfl;(with_reducible repeat (first|refine blk_drewN ?_ _|refine blk_drew ?_|refine blk_alloc ?_ _));refine blk_put (cs:=#[.bool false,.slice none 0 0]) ?_ 0 _ rfl;(with_reducible repeat (first|refine blk_drewN ?_ _|refine blk_drew ?_|refine blk_alloc ?_ _));exact BK235.out⟩
   have n5_:Aside0 (Below w.heap.size w ((w16.setCell ⟨gb235,0,none⟩ (.bool t231)).setCell ⟨gb235,1,none⟩ (.slice Ao19 t232.length co19))):=⟨by repeat (with_reducible first|exact HB.out|apply below_alloc|apply pw_below_drewN|apply below_drew1|refine below_set ?_ GE222.out|refine below_set ?_ GE235.out)⟩
   (try clear HO226)
   (try clear HO230)
   (try clear HO234)
   (try clear BK222)
   (try clear BK235)
   (try clear HB)
   generalize ((w16.setCell ⟨gb235,0,none⟩ (.bool t231)).setCell ⟨gb235,1,none⟩ (.slice Ao19 t232.length co19))=w20 at n0_ n1_ n2_ n3_ n4_ n5_ ⊢
   have HO226:=n0_
   have HO230:=n1_
   have HO234:=n2_
   have BK222:=n3_
   have BK235:=n4_
   have HB:=n5_
   clear n0_ n1_ n2_ n3_ n4_ n5_
   have n0_:=Aside0.mk (Kd.R_drew HO226.out)
   have n1_:=Aside0.mk (Kd.R_drew HO230.out)
   have n2_:=Aside0.mk (Kd.R_drew HO234.out)
   have n3_:=Aside0.mk (blk_drew BK222.out)
   have n4_:=Aside0.mk (blk_drew BK235.out)
   have n5_:=Aside0.mk (below_drew1 HB.out)
   clear HO226
   clear HO230
   clear HO234
   clear BK222
   clear BK235
   clear HB
   have HO226:=n0_
   have HO230:=n1_
   have HO234:=n2_
   have BK222:=n3_
   have BK235:=n4_
   have HB:=n5_
   clear n0_ n1_ n2_ n3_ n4_ n5_
   refine start_ (n:=7) (S:=fun w'=>w'.cell? ⟨gb235,0,none⟩=some (.bool t231)∧w'.cell? ⟨gb235,1,none⟩=some (.slice Ao19 t232.length co19)∧w'.cell? ⟨gb222,0,none⟩=some (.bool a0_0)∧w'.cell? ⟨gb222,1,none⟩=some (.slice A0_1 l0_1.length c0_1)) (ds:=[]) #[false,false,false,false,false,false,false] (by kernel_rfl) rfl rfl ⟨(blk_cell BK235.out 0).trans rfl,(blk_cell BK235.out 1).trans rfl,(blk_cell BK222.out 0).trans rfl,(blk_cell BK222.out 1).trans rfl⟩ (fun hHeld=>?_)
   generalize w20.drew=w21 at HO226 HO230 HO234 BK222 BK235 HB hHeld ⊢
   refine pure_ (i:=0) (N:=some 14) (v:=?_) (a':=?_) #[true,false,false,false,false,false,false] rfl rfl (by kernel_rfl) (fun _ _ _ h=>h) (Or.inl ⟨by rfl,?_⟩) ?_ ?_
   rotate_left
   · intro w'
     go_simp
     with_reducible rfl
   rotate_left
   · simp only [Act.put,List.setIfInBounds_toArray,List.set_cons_zero,List.set_cons_succ,i64_w,i32_w]
     rfl
   refine take_ (i:=2) (N:=some 16) (v:=?_) (a':=?_) #[true,false,true,false,false,false,false] rfl rfl (by kernel_rfl) (fun _ _ _ h=>h) (Or.inl ⟨by rfl,?_⟩) hHeld ?_ ?_
   rotate_left
   · rintro w' ⟨s0,s1,s2,s3⟩
     go_simp
     with_reducible rfl
   rotate_left
   · simp only [Act.put,List.setIfInBounds_toArray,List.set_cons_zero,List.set_cons_succ,i64_w,i32_w]
     rfl
   refine take_ (i:=4) (N:=some 18) (v:=?_) (a':=?_) #[true,false,true,false,true,false,false] rfl rfl (by kernel_rfl) (fun _ _ _ h=>h) (Or.inl ⟨by rfl,?_⟩) hHeld ?_ ?_
   rotate_left
   · rintro w' ⟨s0,s1,s2,s3⟩
     go_simp
     with_reducible rfl
   rotate_left
   · simp only [Act.put,List.setIfInBounds_toArray,List.set_cons_zero,List.set_cons_succ,i64_w,i32_w]
     rfl
   refine one_ (i:=1) (N:=some 15) #[true,true,true,false,true,false,false] rfl rfl (by kernel_rfl) (by decide) (fun K hK=>?_)
   refine goes_ Try.func27 (by kernel_rfl) rfl #[.int .i64 4611686018427387905] (by rfl) rfl rfl (by (try simp only [List.map_toArray,List.map_cons,List.map_nil]);first|done|rfl|(simp only [List.length_drop,List.length_take];rfl)) ?_
   with_reducible refine (octroiref01_Of.calls k 4611686018427387905 t236 t237 _ A6.out).mono ?_
   rintro e w22 ⟨v238,rfl,ho0,hb⟩
   refine ⟨_,rfl,?_⟩
   have n0_:=Aside0.mk (Kd.R_elder' (by (with_reducible repeat (first|apply Kd.R_alloc|apply Kd.R_drewN|apply Kd.R_drew));exact HO226.out) (Kd.R_base ho0) hb)
   have n1_:=Aside0.mk (Kd.R_elder' (by (with_reducible repeat (first|apply Kd.R_alloc|apply Kd.R_drewN|apply Kd.R_drew));exact HO230.out) (Kd.R_base ho0) hb)
   have n2_:=Aside0.mk (Kd.R_elder' (by (with_reducible repeat (first|apply Kd.R_alloc|apply Kd.R_drewN|apply Kd.R_drew));exact HO234.out) (Kd.R_base ho0) hb)
   have n3_:=Aside0.mk (Kd.R_lower (Kd.R_new' (Kd.R_new' (Kd.R_new' ho0 (Kd.R_lt (by (with_reducible repeat (first|apply Kd.R_alloc|apply Kd.R_drewN|apply Kd.R_drew));exact HO226.out))) (Kd.R_lt (by (with_reducible repeat (first|apply Kd.R_alloc|apply Kd.R_drewN|apply Kd.R_drew));exact HO230.out))) (Kd.R_lt (by (with_reducible repeat (first|apply Kd.R_alloc|apply Kd.R_drewN|apply Kd.R_drew));exact HO234.out))) (below_size (by repeat (with_reducible first|exact HB.out|apply below_alloc|apply pw_below_drewN|apply below_drew1|refine below_set ?_ GE222.out|refine below_set ?_ GE235.out))))
   have n4_:=Aside0.mk (blk_below (g:=gb222) (o:=.cells #[.bool a0_0,.slice A0_1 l0_1.length c0_1] 73 (0,0)) (by (with_reducible repeat (first|refine blk_drewN ?_ _|refine blk_drew ?_|refine blk_alloc ?_ _));exact BK222.out) hb)
   have n5_:=Aside0.mk (blk_below (g:=gb235) (o:=.cells #[.bool t231,.slice Ao19 t232.length co19] 73 (0,0)) (by (with_reducible repeat (first|refine blk_drewN ?_ _|refine blk_drew ?_|refine blk_alloc ?_ _));exact BK235.out) hb)
   have n6_:=Aside0.mk (below_step (by repeat (with_reducible first|exact HB.out|apply below_alloc|apply pw_below_drewN|apply below_drew1|refine below_set ?_ GE222.out|refine below_set ?_ GE235.out)) hb)
   clear HO226
   clear HO230
   clear HO234
   clear BK222
   clear BK235
   clear HB
   have HO226:=n0_
   have HO230:=n1_
   have HO234:=n2_
   have HO239:=n3_
   have BK222:=n4_
   have BK235:=n5_
   have HB:=n6_
   clear n0_ n1_ n2_ n3_ n4_ n5_ n6_
   (try clear hb)
   (try clear hb2)
   (try clear hk)
   (try clear hi)
   (try clear ho0)
   obtain ⟨Ao23,co23,eo23⟩:=Kd.R_slice HO239.out
   (first|subst eo23|(injection eo23 with f1_ f2_ f3_;have f4_:=f1_.symm;have f5_:=f3_.symm;clear f1_ f2_ f3_;subst f4_;subst f5_))
   refine hK.out _ _ ⟨(blk_cell BK235.out 0).trans rfl,(blk_cell BK235.out 1).trans rfl,(blk_cell BK222.out 0).trans rfl,(blk_cell BK222.out 1).trans rfl⟩ (fun hHeld=>?_)
   clear hK K
   refine norm_ (a':=?_) ?_ ?_
   rotate_left
   · show Act.put _ (some 15) _=_
     simp only [Act.put,List.setIfInBounds_toArray,List.set_cons_zero,List.set_cons_succ,i64_w,i32_w]
     rfl
   refine one_ (i:=3) (N:=some 17) #[true,true,true,true,true,false,false] rfl rfl (by kernel_rfl) (by decide) (fun K hK=>?_)
   refine goes_ Try.func58 (by kernel_rfl) rfl #[.agg #[.bool t236,.slice Ao23 t237.length co23],.agg #[.bool t231,.slice Ao19 t232.length co19]] (by rfl) rfl rfl (by (try simp only [List.map_toArray,List.map_cons,List.map_nil]);first|done|rfl|(simp only [List.length_drop,List.length_take];rfl)) ?_
   with_reducible refine (octroiref01_Mul.calls k t236 _ _ t237 t231 _ _ t232 t240 t241 _ ?side1 ?side2 ?side3 ?side4 A7.out).mono ?_
   (case side1=>repeat (first|exact (Kd.R_reads' HO239.out).2.2|(with_reducible refine Kd.C_alloc ?_ _)|(with_reducible refine Kd.C_drewN ?_ _)|(with_reducible refine Kd.C_drew ?_)))
   (case side2=>exact (Kd.R_reads' HO239.out).2.1)
   (case side3=>repeat (first|exact (Kd.R_reads' HO234.out).2.2|(with_reducible refine Kd.C_alloc ?_ _)|(with_reducible refine Kd.C_drewN ?_ _)|(with_reducible refine Kd.C_drew ?_)))
   (case side4=>exact (Kd.R_reads' HO234.out).2.1)
   rintro e w24 ⟨v242,rfl,ho0,hb⟩
   refine ⟨_,rfl,?_⟩
   have n0_:=Aside0.mk (Kd.R_elder' (by (with_reducible repeat (first|apply Kd.R_alloc|apply Kd.R_drewN|apply Kd.R_drew));exact HO226.out) (Kd.R_base ho0) hb)
   have n1_:=Aside0.mk (Kd.R_elder' (by (with_reducible repeat (first|apply Kd.R_alloc|apply Kd.R_drewN|apply Kd.R_drew));exact HO230.out) (Kd.R_base ho0) hb)
   have n2_:=Aside0.mk (Kd.R_elder' (by (with_reducible repeat (first|apply Kd.R_alloc|apply Kd.R_drewN|apply Kd.R_drew));exact HO234.out) (Kd.R_base ho0) hb)
   have n3_:=Aside0.mk (Kd.R_elder' (by (with_reducible repeat (first|apply Kd.R_alloc|apply Kd.R_drewN|apply Kd.R_drew));exact HO239.out) (Kd.R_base ho0) hb)
   have n4_:=Aside0.mk (Kd.R_lower (Kd.R_new' (Kd.R_new' (Kd.R_new' (Kd.R_new' ho0 (Kd.R_lt (by (with_reducible repeat (first|apply Kd.R_alloc|apply Kd.R_drewN|apply Kd.R_drew));exact HO226.out))) (Kd.R_lt (by (with_reducible repeat (first|apply Kd.R_alloc|apply Kd.R_drewN|apply Kd.R_drew));exact HO230.out))) (Kd.R_lt (by (with_reducible repeat (first|apply Kd.R_alloc|apply Kd.R_drewN|apply Kd.R_drew));exact HO234.out))) (Kd.R_lt (by (with_reducible repeat (first|apply Kd.R_alloc|apply Kd.R_drewN|apply Kd.R_drew));exact HO239.out))) (below_size (by repeat (with_reducible first|exact HB.out|apply below_alloc|apply pw_below_drewN|apply below_drew1|refine below_set ?_ GE222.out|refine below_set ?_ GE235.out))))
   have n5_:=Aside0.mk (blk_below (g:=gb222) (o:=.cells #[.bool a0_0,.slice A0_1 l0_1.length c0_1] 73 (0,0)) (by (with_reducible repeat (first|refine blk_drewN ?_ _|refine blk_drew ?_|refine blk_alloc ?_ _));exact BK222.out) hb)
   have n6_:=Aside0.mk (blk_below (g:=gb235) (o:=.cells #[.bool t231,.slice Ao19 t232.length co19] 73 (0,0)) (by (with_reducible repeat (first|refine blk_drewN ?_ _|refine blk_drew ?_|refine blk_alloc ?_ _));exact BK235.out) hb)
   have n7_:=Aside0.mk (below_step (by repeat (with_reducible first|exact HB.out|apply below_alloc|apply pw_below_drewN|apply below_drew1|refine below_set ?_ GE222.out|refine below_set ?_ GE235.out)) hb)
   clear HO226
   clear HO230
   clear HO234
   clear HO239
   clear BK222
   clear BK235
   clear HB
   have HO226:=n0_
   have HO230:=n1_
   have HO234:=n2_
   have HO239:=n3_
   have HO243:=n4_
   have BK222:=n5_
   have BK235:=n6_
   have HB:=n7_
   clear n0_ n1_ n2_ n3_ n4_ n5_ n6_ n7_
   (try clear hb)
   (try clear hb2)
   (try clear hk)
   (try clear hi)
   (try clear ho0)
   obtain ⟨Ao25,co25,eo25⟩:=Kd.R_slice HO243.out
   (first|subst eo25|(injection eo25 with f1_ f2_ f3_;have f4_:=f1_.symm;have f5_:=f3_.symm;clear f1_ f2_ f3_;subst f4_;subst f5_))
   refine hK.out _ _ ⟨(blk_cell BK235.out 0).trans rfl,(blk_cell BK235.out 1).trans rfl,(blk_cell BK222.out 0).trans rfl,(blk_cell BK222.out 1).trans rfl⟩ (fun hHeld=>?_)
   clear hK K
   refine norm_ (a':=?_) ?_ ?_
   rotate_left
   · show Act.put _ (some 17) _=_
     simp only [Act.put,List.setIfInBounds_toArray,List.set_cons_zero,List.set_cons_succ,i64_w,i32_w]
     rfl
   refine one_ (i:=5) (N:=some 19) #[true,true,true,true,true,true,false] rfl rfl (by kernel_rfl) (by decide) (fun K hK=>?_)
   refine goes_ Try.func45 (by kernel_rfl) rfl #[.agg #[.bool t240,.slice Ao25 t241.length co25],.agg #[.bool a0_0,.slice A0_1 l0_1.length c0_1]] (by rfl) rfl rfl (by (try simp only [List.map_toArray,List.map_cons,List.map_nil]);first|done|rfl|(simp only [List.length_drop,List.length_take];rfl)) ?_
   with_reducible refine (octroiref01_Cmp.calls k t240 _ _ t241 a0_0 _ _ l0_1 t244 _ ?side1 ?side2 ?side3 ?side4 A8.out).mono ?_
   (case side1=>repeat (first|exact (Kd.R_reads' HO243.out).2.2|(with_reducible refine Kd.C_alloc ?_ _)|(with_reducible refine Kd.C_drewN ?_ _)|(with_reducible refine Kd.C_drew ?_)))
   (case side2=>exact (Kd.R_reads' HO243.out).2.1)
   (case side3=>repeat (first|exact (Kd.C_below HR0_1.out HB.out)|(with_reducible refine Kd.C_alloc ?_ _)|(with_reducible refine Kd.C_drewN ?_ _)|(with_reducible refine Kd.C_drew ?_)))
   (case side4=>exact HC0_1.out)
   rintro e w26 ⟨rfl,hb⟩
   refine ⟨_,rfl,?_⟩
   have n0_:=Aside0.mk (Kd.R_below (by (with_reducible repeat (first|apply Kd.R_alloc|apply Kd.R_drewN|apply Kd.R_drew));exact HO226.out) hb)
   have n1_:=Aside0.mk (Kd.R_below (by (with_reducible repeat (first|apply Kd.R_alloc|apply Kd.R_drewN|apply Kd.R_drew));exact HO230.out) hb)
   have n2_:=Aside0.mk (Kd.R_below (by (with_reducible repeat (first|apply Kd.R_alloc|apply Kd.R_drewN|apply Kd.R_drew));exact HO234.out) hb)
   have n3_:=Aside0.mk (Kd.R_below (by (with_reducible repeat (first|apply Kd.R_alloc|apply Kd.R_drewN|apply Kd.R_drew));exact HO239.out) hb)
   have n4_:=Aside0.mk (Kd.R_below (by (with_reducible repeat (first|apply Kd.R_alloc|apply Kd.R_drewN|apply Kd.R_drew));exact HO243.out) hb)
   have n5_:=Aside0.mk (blk_below (g:=gb222) (o:=.cells #[.bool a0_0,.slice A0_1 l0_1.length c0_1] 73 (0,0)) (by (with_reducible repeat (first|refine blk_drewN ?_ _|refine blk_drew ?_|refine blk_alloc ?_ _));exact BK222.out) hb)
   have n6_:=Aside0.mk (blk_below (g:=gb235) (o:=.cells #[.bool t231,.slice Ao19 t232.length co19] 73 (0,0)) (by (with_reducible repeat (first|refine blk_drewN ?_ _|refine blk_drew ?_|refine blk_alloc ?_ _));exact BK235.out) hb)
   have n7_:=Aside0.mk (below_step (by repeat (with_reducible first|exact HB.out|apply below_alloc|apply pw_below_drewN|apply below_drew1|refine below_set ?_ GE222.out|refine below_set ?_ GE235.out)) hb)
   clear HO226
   clear HO230
   clear HO234
   clear HO239
   clear HO243
   clear BK222
   clear BK235
   clear HB
   have HO226:=n0_
   have HO230:=n1_
   have HO234:=n2_
   have HO239:=n3_
   have HO243:=n4_
   have BK222:=n5_
   have BK235:=n6_
   have HB:=n7_
   clear n0_ n1_ n2_ n3_ n4_ n5_ n6_ n7_
   (try clear hb)
   (try clear hb2)
   (try clear hk)
   (try clear hi)
   refine hK.out _ _ ⟨(blk_cell BK235.out 0).trans rfl,(blk_cell BK235.out 1).trans rfl,(blk_cell BK222.out 0).trans rfl,(blk_cell BK222.out 1).trans rfl⟩ (fun hHeld=>?_)
   clear hK K
   refine norm_ (a':=?_) ?_ ?_
   rotate_left
   · show Act.put _ (some 19) _=_
     simp only [Act.put,List.setIfInBounds_toArray,List.set_cons_zero,List.set_cons_succ,i64_w,i32_w]
     rfl
   refine pure_ (i:=6) (N:=some 20) (v:=?_) (a':=?_) #[true,true,true,true,true,true,true] rfl rfl (by kernel_rfl) (fun _ _ _ h=>h) (Or.inl ⟨by rfl,?_⟩) ?_ ?_
   rotate_left
   · intro w'
     go_simp
     with_reducible rfl
   rotate_left
   · simp only [Act.put,List.setIfInBounds_toArray,List.set_cons_zero,List.set_cons_succ,i64_w,i32_w]
     rfl
   refine done_ (by kernel_rfl) ?_
   try go_wp2
   go_ret
   exact ⟨by first|rfl|(simp [errW_none,errW_some]<;>rfl)|(simp [*,errW_none,errW_some]<;>rfl),by repeat (with_reducible first|exact HB.out|apply below_alloc|apply pw_below_drewN|apply below_drew1|refine below_set ?_ GE222.out|refine below_set ?_ GE235.out)⟩
 · rw [if_neg c9] at H
   have c9b0:decide (t244≤0)=false:=decide_eq_false c9
   clear c9
   have H':=Aside0.mk H
   clear H
   go_enter Try.func60,Try.ntmps60
   try go_wp2_with (first|((with_reducible refine gate_dst (N:=2) rfl ?_);refine box_event ?hg (N:=2) ?hd (cs:=#[.bool a0_0,.slice A0_1 l0_1.length c0_1]) (t:=73) ?hr ?_;(case hd=>rfl);(case hg=>rfl);(case hr=>first|(go_simp;done)|(go_simp;rfl));intro gb222 hg w27 hbox hb;have n0_:=Aside0.mk (below_step (by repeat (with_reducible first|exact HB.out|apply below_alloc|apply pw_below_drewN|apply below_drew1)) hb);have n1_:=Aside0.mk (hbox);have n2_:=Aside0.mk ((by rw [hg];exact (below_size (by repeat (with_reducible first|exact HB.out|apply below_alloc|apply pw_below_drewN|apply below_drew1))):w.heap.size≤gb222));have n3_:=Aside0.mk ((by rw [hg];exact (below_size (by repeat (with_reducible first|exact HB.out|apply below_alloc|apply pw_below_drewN|apply below_drew1))):w.heap.size≤gb222));clear HB;have HB:=n0_;have BK222:=n1_;have GW222:=n2_;have GE222:=n3_;clear n0_ n1_ n2_ n3_;clear hb hbox hg)|((with_reducible refine gate_callee (f:=27) rfl ?_);refine goesL_ (some 11) rfl rfl Try.func27 (by kernel_rfl) rfl #[.int .i64 a1] rfl (by (try simp only [List.map_toArray,List.map_cons,List.map_nil]);first|done|rfl|(simp only [List.length_drop,List.length_take];rfl)) ?_;(with_reducible refine (octroiref01_Of.calls k a1 t223 t224 _ A3.out).mono ?_);rintro e w28 ⟨v225,rfl,ho0,hb⟩;refine ⟨_,rfl,?_⟩;have n0_:=Aside0.mk (Kd.R_lower ho0 (below_size (by repeat (with_reducible first|exact HB.out|apply below_alloc|apply pw_below_drewN|apply below_drew1|refine below_set ?_ GE222.out))));have n1_:=Aside0.mk (blk_below (g:=gb222) (o:=.cells #[.bool a0_0,.slice A0_1 l0_1.length c0_1] 73 (0,0)) (by (with_reducible repeat (first|refine blk_drewN ?_ _|refine blk_drew ?_|refine blk_alloc ?_ _));exact BK222.out) hb);have n2_:=Aside0.mk (below_step (by repeat (with_reducible first|exact HB.out|apply below_alloc|apply pw_below_drewN|apply below_drew1|refine below_set ?_ GE222.out)) hb);clear BK222;clear HB;have HO226:=n0_;have BK222:=n1_;have HB:=n2_;clear n0_ n1_ n2_;(try clear hb);(try clear hb2);(try clear hk);(try clear hi);(try clear ho0))|((with_reducible refine gate_callee (f:=27) rfl ?_);refine goesL_ (some 12) rfl rfl Try.func27 (by kernel_rfl) rfl #[.int .i64 2] rfl (by (try simp only [List.map_toArray,List.map_cons,List.map_nil]);first|done|rfl|(simp only [List.length_drop,List.length_take];rfl)) ?_;(with_reducible refine (octroiref01_Of.calls k 2 t227 t228 _ A4.out).mono ?_);rintro e w29 ⟨v229,rfl,ho0,hb⟩;refine ⟨_,rfl,?_⟩;have n0_:=Aside0.mk (Kd.R_elder' (by (with_reducible repeat (first|apply Kd.R_alloc|apply Kd.R_drewN|apply Kd.R_drew));exact HO226.out) (Kd.R_base ho0) hb);have n1_:=Aside0.mk (Kd.R_lower (Kd.R_new' ho0 (Kd.R_lt (by (with_reducible repeat (first|apply Kd.R_alloc|apply Kd.R_drewN|apply Kd.R_drew));exact HO226.out))) (below_size (by repeat (with_reducible first|exact HB.out|apply below_alloc|apply pw_below_drewN|apply below_drew1|refine below_set ?_ GE222.out))));have n2_:=Aside0.mk (blk_below (g:=gb222) (o:=.cells #[.bool a0_0,.slice A0_1 l0_1.length c0_1] 73 (0,0)) (by (with_reducible repeat (first|refine blk_drewN ?_ _|refine blk_drew ?_|refine blk_alloc ?_ _));exact BK222.out) hb);have n3_:=Aside0.mk (below_step (by repeat (with_reducible first|exact HB.out|apply below_alloc|apply pw_below_drewN|apply below_drew1|refine below_set ?_ GE222.out)) hb);clear HO226;clear BK222;clear HB;have HO226:=n0_;have HO230:=n1_;have BK222:=n2_;have HB:=n3_;clear n0_ n1_ n2_ n3_;(try clear hb);(try clear hb2);(try clear hk);(try clear hi);(try clear ho0);obtain ⟨Ao30,co30,eo30⟩:=Kd.R_slice HO226.out;subst eo30;obtain ⟨Ao31,co31,eo31⟩:=Kd.R_slice HO230.out;subst eo31)|((with_reducible refine gate_callee (f:=58) rfl ?_);refine goesL_ (some 13) rfl rfl Try.func58 (by kernel_rfl) rfl #[.agg #[.bool t223,.slice Ao30 t224.length co30],.agg #[.bool t227,.slice Ao31 t228.length co31]] rfl (by (try simp only [List.map_toArray,List.map_cons,List.map_nil]);first|done|rfl|(simp only [List.length_drop,List.length_take];rfl)) ?_;(with_reducible refine (octroiref01_Mul.calls k t223 _ _ t224 t227 _ _ t228 t231 t232 _ ?side1 ?side2 ?side3 ?side4 A5.out).mono ?_);(case side1=>repeat (first|exact (Kd.R_reads' HO226.out).2.2|(with_reducible refine Kd.C_alloc ?_ _)|(with_reducible refine Kd.C_drewN ?_ _)|(with_reducible refine Kd.C_drew ?_)));(case side2=>exact (Kd.R_reads' HO226.out).2.1);(case side3=>repeat (first|exact (Kd.R_reads' HO230.out).2.2|(with_reducible refine Kd.C_alloc ?_ _)|(with_reducible refine Kd.C_drewN ?_ _)|(with_reducible refine Kd.C_drew ?_)));(case side4=>exact (Kd.R_reads' HO230.out).2.1);rintro e w32 ⟨v233,rfl,ho0,hb⟩;refine ⟨_,rfl,?_⟩;have n0_:=Aside0.mk (Kd.R_elder' (by (with_reducible repeat (first|apply Kd.R_alloc|apply Kd.R_drewN|apply Kd.R_drew));exact HO226.out) (Kd.R_base ho0) hb);have n1_:=Aside0.mk (Kd.R_elder' (by (with_reducible repeat (first|apply Kd.R_alloc|apply Kd.R_drewN|apply Kd.R_drew));exact HO230.out) (Kd.R_base ho0) hb);have n2_:=Aside0.mk (Kd.R_lower (Kd.R_new' (Kd.R_new' ho0 (Kd.R_lt (by (with_reducible repeat (first|apply Kd.R_alloc|apply Kd.R_drewN|apply Kd.R_drew));exact HO226.out))) (Kd.R_lt (by (with_reducible repeat (first|apply Kd.R_alloc|apply Kd.R_drewN|apply Kd.R_drew));exact HO230.out))) (below_size (by repeat (with_reducible first|exact HB.out|apply below_alloc|apply pw_below_drewN|apply below_drew1|refine below_set ?_ GE222.out))));have n3_:=Aside0.mk (blk_below (g:=gb222) (o:=.cells #[.bool a0_0,.slice A0_1 l0_1.length c0_1] 73 (0,0)) (by (with_reducible repeat (first|refine blk_drewN ?_ _|refine blk_drew ?_|refine blk_alloc ?_ _));exact BK222.out) hb);have n4_:=Aside0.mk (below_step (by repeat (with_reducible first|exact HB.out|apply below_alloc|apply pw_below_drewN|apply below_drew1|refine below_set ?_ GE222.out)) hb);clear HO226;clear HO230;clear BK222;clear HB;have HO226:=n0_;have HO230:=n1_;have HO234:=n2_;have BK222:=n3_;have HB:=n4_;clear n0_ n1_ n2_ n3_ n4_;(try clear hb);(try clear hb2);(try clear hk);(try clear hi);(try clear ho0))|((with_reducible refine gate_dst (N:=6) rfl ?_);refine box_event ?hg (N:=6) ?hd (cs:=#[.bool false,.slice none 0 0]) (t:=73) ?hr ?_;(case hd=>rfl);(case hg=>rfl);(case hr=>first|(go_simp;done)|(go_simp;rfl));intro gb235 hg w33 hbox hb;have n0_:=Aside0.mk (Kd.R_below (by (with_reducible repeat (first|apply Kd.R_alloc|apply Kd.R_drewN|apply Kd.R_drew));exact HO226.out) hb);have n1_:=Aside0.mk (Kd.R_below (by (with_reducible repeat (first|apply Kd.R_alloc|apply Kd.R_drewN|apply Kd.R_drew));exact HO230.out) hb);have n2_:=Aside0.mk (Kd.R_below (by (with_reducible repeat (first|apply Kd.R_alloc|apply Kd.R_drewN|apply Kd.R_drew));exact HO234.out) hb);have n3_:=Aside0.mk (blk_below (g:=gb222) (o:=.cells #[.bool a0_0,.slice A0_1 l0_1.length c0_1] 73 (0,0)) (by (with_reducible repeat (first|refine blk_drewN ?_ _|refine blk_drew ?_|refine blk_alloc ?_ _));exact BK222.out) hb);have n4_:=Aside0.mk (below_step (by repeat (with_reducible first|exact HB.out|apply below_alloc|apply pw_below_drewN|apply below_drew1|refine below_set ?_ GE222.out)) hb);have n5_:=Aside0.mk (hbox);have n6_:=Aside0.mk ((by rw [hg];exact (below_size (by repeat (with_reducible first|exact HB.out|apply below_alloc|apply pw_below_drewN|apply below_drew1|refine below_set ?_ GE222.out))):w.heap.size≤gb235));have n7_:=Aside0.mk ((by rw [hg];exact (below_size (by repeat (with_reducible first|exact HB.out|apply below_alloc|apply pw_below_drewN|apply below_drew1|refine below_set ?_ GE222.out))):w.heap.size≤gb235));have n8_:=Aside0.mk ((by rw [hg];exact Nat.ne_of_lt (blk_lt (g:=gb222) (o:=.cells #[.bool a0_0,.slice A0_1 l0_1.length c0_1] 73 (0,0)) (by (with_reducible repeat (first|refine blk_drewN ?_ _|refine blk_drew ?_|refine blk_alloc ?_ _));exact BK222.out)):gb222≠gb235));have n9_:=Aside0.mk ((by rw [hg];exact Nat.ne_of_gt (blk_lt (g:=gb222) (o:=.cells #[.bool a0_0,.slice A0_1 l0_1.length c0_1] 73 (0,0)) (by (with_reducible repeat (first|refine blk_drewN ?_ _|refine blk_drew ?_|refine blk_alloc ?_ _));exact BK222.out)):gb235≠gb222));clear HO226;clear HO230;clear HO234;clear BK222;clear HB;have HO226:=n0_;have HO230:=n1_;have HO234:=n2_;have BK222:=n3_;have HB:=n4_;have BK235:=n5_;have GW235:=n6_;have GE235:=n7_;have NB222_235:=n8_;have NB235_222:=n9_;clear n0_ n1_ n2_ n3_ n4_ n5_ n6_ n7_ n8_ n9_;clear hb hbox hg;have hnb34:=NB235_222.out;have hnc34:=NB222_235.out;have hcz35_0:w33.cell? ⟨gb235,0,none⟩=some (.bool false):=(blk_cell BK235.out 0).trans rfl;have hcz35_1:w33.cell? ⟨gb235,1,none⟩=some (.slice none 0 0):=(blk_cell BK235.out 1).trans rfl;have hfz35_0:=blk_frozen BK235.out 0;have hfz35_1:=blk_frozen BK235.out 1;obtain ⟨Ao36,co36,eo36⟩:=Kd.R_slice HO234.out;subst eo36))
   have n0_:Aside0 (Kd.R (Kd.int .i64) 3 ((w33.setCell ⟨gb235,0,none⟩ (.bool t231)).setCell ⟨gb235,1,none⟩ (.slice Ao36 t232.length co36)) w.heap.size (fun k_=>some k_≠(.slice Ao31 t228.length co31:Value).ownBlock∧some k_≠(.slice Ao36 t232.length co36:Value).ownBlock) (.slice Ao30 t224.length co30) t224):=⟨by (with_reducible repeat (first|apply Kd.R_alloc|apply Kd.R_drewN|apply Kd.R_drew));exact Kd.R_mono (Kd.R_far (p:=⟨gb235,1,none⟩) (Kd.R_far (p:=⟨gb235,0,none⟩) (Kd.R_types HO226.out BK235.out (by decide)) (fun _ hk=>hk.2) (.bool t231)) (fun _ hk=>hk.2) (.slice Ao36 t232.length co36)) (fun _ hk=>⟨hk.1.1.2,hk.1.2⟩)⟩
   have n1_:Aside0 (Kd.R (Kd.int .i64) 3 ((w33.setCell ⟨gb235,0,none⟩ (.bool t231)).setCell ⟨gb235,1,none⟩ (.slice Ao36 t232.length co36)) w.heap.size (fun k_=>some k_≠(.slice Ao30 t224.length co30:Value).ownBlock∧some k_≠(.slice Ao36 t232.length co36:Value).ownBlock) (.slice Ao31 t228.length co31) t228):=⟨by (with_reducible repeat (first|apply Kd.R_alloc|apply Kd.R_drewN|apply Kd.R_drew));exact Kd.R_mono (Kd.R_far (p:=⟨gb235,1,none⟩) (Kd.R_far (p:=⟨gb235,0,none⟩) (Kd.R_types HO230.out BK235.out (by decide)) (fun _ hk=>hk.2) (.bool t231)) (fun _ hk=>hk.2) (.slice Ao36 t232.length co36)) (fun _ hk=>⟨hk.1.1.2,hk.1.2⟩)⟩
   have n2_:Aside0 (Kd.R (Kd.int .i64) 3 ((w33.setCell ⟨gb235,0,none⟩ (.bool t231)).setCell ⟨gb235,1,none⟩ (.slice Ao36 t232.length co36)) w.heap.size (fun k_=>some k_≠(.slice Ao30 t224.length co30:Value).ownBlock∧some k_≠(.slice Ao31 t228.length co31:Value).ownBlock) (.slice Ao36 t232.length co36) t232):=⟨by (with_reducible repeat (first|apply Kd.R_alloc|apply Kd.R_drewN|apply Kd.R_drew));exact Kd.R_mono (Kd.R_far (p:=⟨gb235,1,none⟩) (Kd.R_far (p:=⟨gb235,0,none⟩) (Kd.R_types HO234.out BK235.out (by decide)) (fun _ hk=>hk.2) (.bool t231)) (fun _ hk=>hk.2) (.slice Ao36 t232.length co36)) (fun _ hk=>⟨hk.1.1.2,hk.1.2⟩)⟩
   have n3_:Aside0 (((w33.setCell ⟨gb235,0,none⟩ (.bool t231)).setCell ⟨gb235,1,none⟩ (.slice Ao36 t232.length co36)).heap[gb222]? = some (.cells #[.bool a0_0,.slice A0_1 l0_1.length c0_1] 73 (0,0))):=⟨by (with_reducible repeat (first|refine blk_drewN ?_ _|refine blk_drew ?_|refine blk_alloc ?_ _));refine blk_far ?_ NB222_235.out _;(with_reducible repeat (first|refine blk_drewN ?_ _|refine blk_drew ?_|refine blk_alloc ?_ _));refine blk_far ?_ NB222_235.out _;(with_reducible repeat (first|refine blk_drewN ?_ _|refine blk_drew ?_|refine blk_alloc ?_ _));exact BK222.out⟩
   have n4_:Aside0 (((w33.setCell ⟨gb235,0,none⟩ (.bool t231)).setCell ⟨gb235,1,none⟩ (.slice Ao36 t232.length co36)).heap[gb235]? = some (.cells #[.bool t231,.slice Ao36 t232.length co36] 73 (0,0))):=⟨by (with_reducible repeat (first|refine blk_drewN ?_ _|refine blk_drew ?_|refine blk_alloc ?_ _));refine blk_put (cs:=#[.bool t231,.slice none 0 0]) ?_ 1 _ rfl;(with_reducible repeat (first|refine blk_drewN ?_ _|refine blk_drew ?_|refine blk_alloc ?_ _));refine blk_put (cs:=#[.bool false,.slice none 0 0]) ?_ 0 _ rfl;(with_reducible repeat (first|refine blk_drewN ?_ _|refine blk_drew ?_|refine blk_alloc ?_ _));exact BK235.out⟩
   have n5_:Aside0 (Below w.heap.size w ((w33.setCell ⟨gb235,0,none⟩ (.bool t231)).setCell ⟨gb235,1,none⟩ (.slice Ao36 t232.length co36))):=⟨by repeat (with_reducible first|exact HB.out|apply below_alloc|apply pw_below_drewN|apply below_drew1|refine below_set ?_ GE222.out|refine below_set ?_ GE235.out)⟩
   (try clear HO226)
   (try clear HO230)
   (try clear HO234)
   (try clear BK222)
   (try clear BK235)
   (try clear HB)
   generalize ((w33.setCell ⟨gb235,0,none⟩ (.bool t231)).setCell ⟨gb235,1,none⟩ (.slice Ao36 t232.length co36))=w37 at n0_ n1_ n2_ n3_ n4_ n5_ ⊢
   have HO226:=n0_
   have HO230:=n1_
   have HO234:=n2_
   have BK222:=n3_
   have BK235:=n4_
   have HB:=n5_
   clear n0_ n1_ n2_ n3_ n4_ n5_
   have n0_:=Aside0.mk (Kd.R_drew HO226.out)
   have n1_:=Aside0.mk (Kd.R_drew HO230.out)
   have n2_:=Aside0.mk (Kd.R_drew HO234.out)
   have n3_:=Aside0.mk (blk_drew BK222.out)
   have n4_:=Aside0.mk (blk_drew BK235.out)
   have n5_:=Aside0.mk (below_drew1 HB.out)
   clear HO226
   clear HO230
   clear HO234
   clear BK222
   clear BK235
   clear HB
   have HO226:=n0_
   have HO230:=n1_
   have HO234:=n2_
   have BK222:=n3_
   have BK235:=n4_
   have HB:=n5_
   clear n0_ n1_ n2_ n3_ n4_ n5_
   refine start_ (n:=7) (S:=fun w'=>w'.cell? ⟨gb235,0,none⟩=some (.bool t231)∧w'.cell? ⟨gb235,1,none⟩=some (.slice Ao36 t232.length co36)∧w'.cell? ⟨gb222,0,none⟩=some (.bool a0_0)∧w'.cell? ⟨gb222,1,none⟩=some (.slice A0_1 l0_1.length c0_1)) (ds:=[]) #[false,false,false,false,false,false,false] (by kernel_rfl) rfl rfl ⟨(blk_cell BK235.out 0).trans rfl,(blk_cell BK235.out 1).trans rfl,(blk_cell BK222.out 0).trans rfl,(blk_cell BK222.out 1).trans rfl⟩ (fun hHeld=>?_)
   generalize w37.drew=w38 at HO226 HO230 HO234 BK222 BK235 HB hHeld ⊢
   refine pure_ (i:=0) (N:=some 14) (v:=?_) (a':=?_) #[true,false,false,false,false,false,false] rfl rfl (by kernel_rfl) (fun _ _ _ h=>h) (Or.inl ⟨by rfl,?_⟩) ?_ ?_
   rotate_left
   · intro w'
     go_simp
     with_reducible rfl
   rotate_left
   · simp only [Act.put,List.setIfInBounds_toArray,List.set_cons_zero,List.set_cons_succ,i64_w,i32_w]
     rfl
   refine take_ (i:=2) (N:=some 16) (v:=?_) (a':=?_) #[true,false,true,false,false,false,false] rfl rfl (by kernel_rfl) (fun _ _ _ h=>h) (Or.inl ⟨by rfl,?_⟩) hHeld ?_ ?_
   rotate_left
   · rintro w' ⟨s0,s1,s2,s3⟩
     go_simp
     with_reducible rfl
   rotate_left
   · simp only [Act.put,List.setIfInBounds_toArray,List.set_cons_zero,List.set_cons_succ,i64_w,i32_w]
     rfl
   refine take_ (i:=4) (N:=some 18) (v:=?_) (a':=?_) #[true,false,true,false,true,false,false] rfl rfl (by kernel_rfl) (fun _ _ _ h=>h) (Or.inl ⟨by rfl,?_⟩) hHeld ?_ ?_
   rotate_left
   · rintro w' ⟨s0,s1,s2,s3⟩
     go_simp
     with_reducible rfl
   rotate_left
   · simp only [Act.put,List.setIfInBounds_toArray,List.set_cons_zero,List.set_cons_succ,i64_w,i32_w]
     rfl
   refine one_ (i:=1) (N:=some 15) #[true,true,true,false,true,false,false] rfl rfl (by kernel_rfl) (by decide) (fun K hK=>?_)
   refine goes_ Try.func27 (by kernel_rfl) rfl #[.int .i64 4611686018427387905] (by rfl) rfl rfl (by (try simp only [List.map_toArray,List.map_cons,List.map_nil]);first|done|rfl|(simp only [List.length_drop,List.length_take];rfl)) ?_
   with_reducible refine (octroiref01_Of.calls k 4611686018427387905 t236 t237 _ A6.out).mono ?_
   rintro e w39 ⟨v238,rfl,ho0,hb⟩
   refine ⟨_,rfl,?_⟩
   have n0_:=Aside0.mk (Kd.R_elder' (by (with_reducible repeat (first|apply Kd.R_alloc|apply Kd.R_drewN|apply Kd.R_drew));exact HO226.out) (Kd.R_base ho0) hb)
   have n1_:=Aside0.mk (Kd.R_elder' (by (with_reducible repeat (first|apply Kd.R_alloc|apply Kd.R_drewN|apply Kd.R_drew));exact HO230.out) (Kd.R_base ho0) hb)
   have n2_:=Aside0.mk (Kd.R_elder' (by (with_reducible repeat (first|apply Kd.R_alloc|apply Kd.R_drewN|apply Kd.R_drew));exact HO234.out) (Kd.R_base ho0) hb)
   have n3_:=Aside0.mk (Kd.R_lower (Kd.R_new' (Kd.R_new' (Kd.R_new' ho0 (Kd.R_lt (by (with_reducible repeat (first|apply Kd.R_alloc|apply Kd.R_drewN|apply Kd.R_drew));exact HO226.out))) (Kd.R_lt (by (with_reducible repeat (first|apply Kd.R_alloc|apply Kd.R_drewN|apply Kd.R_drew));exact HO230.out))) (Kd.R_lt (by (with_reducible repeat (first|apply Kd.R_alloc|apply Kd.R_drewN|apply Kd.R_drew));exact HO234.out))) (below_size (by repeat (with_reducible first|exact HB.out|apply below_alloc|apply pw_below_drewN|apply below_drew1|refine below_set ?_ GE222.out|refine below_set ?_ GE235.out))))
   have n4_:=Aside0.mk (blk_below (g:=gb222) (o:=.cells #[.bool a0_0,.slice A0_1 l0_1.length c0_1] 73 (0,0)) (by (with_reducible repeat (first|refine blk_drewN ?_ _|refine blk_drew ?_|refine blk_alloc ?_ _));exact BK222.out) hb)
   have n5_:=Aside0.mk (blk_below (g:=gb235) (o:=.cells #[.bool t231,.slice Ao36 t232.length co36] 73 (0,0)) (by (with_reducible repeat (first|refine blk_drewN ?_ _|refine blk_drew ?_|refine blk_alloc ?_ _));exact BK235.out) hb)
   have n6_:=Aside0.mk (below_step (by repeat (with_reducible first|exact HB.out|apply below_alloc|apply pw_below_drewN|apply below_drew1|refine below_set ?_ GE222.out|refine below_set ?_ GE235.out)) hb)
   clear HO226
   clear HO230
   clear HO234
   clear BK222
   clear BK235
   clear HB
   have HO226:=n0_
   have HO230:=n1_
   have HO234:=n2_
   have HO239:=n3_
   have BK222:=n4_
   have BK235:=n5_
   have HB:=n6_
   clear n0_ n1_ n2_ n3_ n4_ n5_ n6_
   (try clear hb)
   (try clear hb2)
   (try clear hk)
   (try clear hi)
   (try clear ho0)
   obtain ⟨Ao40,co40,eo40⟩:=Kd.R_slice HO239.out
   (first|subst eo40|(injection eo40 with f1_ f2_ f3_;have f4_:=f1_.symm;have f5_:=f3_.symm;clear f1_ f2_ f3_;subst f4_;subst f5_))
   refine hK.out _ _ ⟨(blk_cell BK235.out 0).trans rfl,(blk_cell BK235.out 1).trans rfl,(blk_cell BK222.out 0).trans rfl,(blk_cell BK222.out 1).trans rfl⟩ (fun hHeld=>?_)
   clear hK K
   refine norm_ (a':=?_) ?_ ?_
   rotate_left
   · show Act.put _ (some 15) _=_
     simp only [Act.put,List.setIfInBounds_toArray,List.set_cons_zero,List.set_cons_succ,i64_w,i32_w]
     rfl
   refine one_ (i:=3) (N:=some 17) #[true,true,true,true,true,false,false] rfl rfl (by kernel_rfl) (by decide) (fun K hK=>?_)
   refine goes_ Try.func58 (by kernel_rfl) rfl #[.agg #[.bool t236,.slice Ao40 t237.length co40],.agg #[.bool t231,.slice Ao36 t232.length co36]] (by rfl) rfl rfl (by (try simp only [List.map_toArray,List.map_cons,List.map_nil]);first|done|rfl|(simp only [List.length_drop,List.length_take];rfl)) ?_
   with_reducible refine (octroiref01_Mul.calls k t236 _ _ t237 t231 _ _ t232 t240 t241 _ ?side1 ?side2 ?side3 ?side4 A7.out).mono ?_
   (case side1=>repeat (first|exact (Kd.R_reads' HO239.out).2.2|(with_reducible refine Kd.C_alloc ?_ _)|(with_reducible refine Kd.C_drewN ?_ _)|(with_reducible refine Kd.C_drew ?_)))
   (case side2=>exact (Kd.R_reads' HO239.out).2.1)
   (case side3=>repeat (first|exact (Kd.R_reads' HO234.out).2.2|(with_reducible refine Kd.C_alloc ?_ _)|(with_reducible refine Kd.C_drewN ?_ _)|(with_reducible refine Kd.C_drew ?_)))
   (case side4=>exact (Kd.R_reads' HO234.out).2.1)
   rintro e w41 ⟨v242,rfl,ho0,hb⟩
   refine ⟨_,rfl,?_⟩
   have n0_:=Aside0.mk (Kd.R_elder' (by (with_reducible repeat (first|apply Kd.R_alloc|apply Kd.R_drewN|apply Kd.R_drew));exact HO226.out) (Kd.R_base ho0) hb)
   have n1_:=Aside0.mk (Kd.R_elder' (by (with_reducible repeat (first|apply Kd.R_alloc|apply Kd.R_drewN|apply Kd.R_drew));exact HO230.out) (Kd.R_base ho0) hb)
   have n2_:=Aside0.mk (Kd.R_elder' (by (with_reducible repeat (first|apply Kd.R_alloc|apply Kd.R_drewN|apply Kd.R_drew));exact HO234.out) (Kd.R_base ho0) hb)
   have n3_:=Aside0.mk (Kd.R_elder' (by (with_reducible repeat (first|apply Kd.R_alloc|apply Kd.R_drewN|apply Kd.R_drew));exact HO239.out) (Kd.R_base ho0) hb)
   have n4_:=Aside0.mk (Kd.R_lower (Kd.R_new' (Kd.R_new' (Kd.R_new' (Kd.R_new' ho0 (Kd.R_lt (by (with_reducible repeat (first|apply Kd.R_alloc|apply Kd.R_drewN|apply Kd.R_drew));exact HO226.out))) (Kd.R_lt (by (with_reducible repeat (first|apply Kd.R_alloc|apply Kd.R_drewN|apply Kd.R_drew));exact HO230.out))) (Kd.R_lt (by (with_reducible repeat (first|apply Kd.R_alloc|apply Kd.R_drewN|apply Kd.R_drew));exact HO234.out))) (Kd.R_lt (by (with_reducible repeat (first|apply Kd.R_alloc|apply Kd.R_drewN|apply Kd.R_drew));exact HO239.out))) (below_size (by repeat (with_reducible first|exact HB.out|apply below_alloc|apply pw_below_drewN|apply below_drew1|refine below_set ?_ GE222.out|refine below_set ?_ GE235.out))))
   have n5_:=Aside0.mk (blk_below (g:=gb222) (o:=.cells #[.bool a0_0,.slice A0_1 l0_1.length c0_1] 73 (0,0)) (by (with_reducible repeat (first|refine blk_drewN ?_ _|refine blk_drew ?_|refine blk_alloc ?_ _));exact BK222.out) hb)
   have n6_:=Aside0.mk (blk_below (g:=gb235) (o:=.cells #[.bool t231,.slice Ao36 t232.length co36] 73 (0,0)) (by (with_reducible repeat (first|refine blk_drewN ?_ _|refine blk_drew ?_|refine blk_alloc ?_ _));exact BK235.out) hb)
   have n7_:=Aside0.mk (below_step (by repeat (with_reducible first|exact HB.out|apply below_alloc|apply pw_below_drewN|apply below_drew1|refine below_set ?_ GE222.out|refine below_set ?_ GE235.out)) hb)
   clear HO226
   clear HO230
   clear HO234
   clear HO239
   clear BK222
   clear BK235
   clear HB
   have HO226:=n0_
   have HO230:=n1_
   have HO234:=n2_
   have HO239:=n3_
   have HO243:=n4_
   have BK222:=n5_
   have BK235:=n6_
   have HB:=n7_
   clear n0_ n1_ n2_ n3_ n4_ n5_ n6_ n7_
   (try clear hb)
   (try clear hb2)
   (try clear hk)
   (try clear hi)
   (try clear ho0)
   obtain ⟨Ao42,co42,eo42⟩:=Kd.R_slice HO243.out
   (first|subst eo42|(injection eo42 with f1_ f2_ f3_;have f4_:=f1_.symm;have f5_:=f3_.symm;clear f1_ f2_ f3_;subst f4_;subst f5_))
   refine hK.out _ _ ⟨(blk_cell BK235.out 0).trans rfl,(blk_cell BK235.out 1).trans rfl,(blk_cell BK222.out 0).trans rfl,(blk_cell BK222.out 1).trans rfl⟩ (fun hHeld=>?_)
   clear hK K
   refine norm_ (a':=?_) ?_ ?_
   rotate_left
   · show Act.put _ (some 17) _=_
     simp only [Act.put,List.setIfInBounds_toArray,List.set_cons_zero,List.set_cons_succ,i64_w,i32_w]
     rfl
   refine one_ (i:=5) (N:=some 19) #[true,true,true,true,true,true,false] rfl rfl (by kernel_rfl) (by decide) (fun K hK=>?_)
   refine goes_ Try.func45 (by kernel_rfl) rfl #[.agg #[.bool t240,.slice Ao42 t241.length co42],.agg #[.bool a0_0,.slice A0_1 l0_1.length c0_1]] (by rfl) rfl rfl (by (try simp only [List.map_toArray,List.map_cons,List.map_nil]);first|done|rfl|(simp only [List.length_drop,List.length_take];rfl)) ?_
   with_reducible refine (octroiref01_Cmp.calls k t240 _ _ t241 a0_0 _ _ l0_1 t244 _ ?side1 ?side2 ?side3 ?side4 A8.out).mono ?_
   (case side1=>repeat (first|exact (Kd.R_reads' HO243.out).2.2|(with_reducible refine Kd.C_alloc ?_ _)|(with_reducible refine Kd.C_drewN ?_ _)|(with_reducible refine Kd.C_drew ?_)))
   (case side2=>exact (Kd.R_reads' HO243.out).2.1)
   (case side3=>repeat (first|exact (Kd.C_below HR0_1.out HB.out)|(with_reducible refine Kd.C_alloc ?_ _)|(with_reducible refine Kd.C_drewN ?_ _)|(with_reducible refine Kd.C_drew ?_)))
   (case side4=>exact HC0_1.out)
   rintro e w43 ⟨rfl,hb⟩
   refine ⟨_,rfl,?_⟩
   have n0_:=Aside0.mk (Kd.R_below (by (with_reducible repeat (first|apply Kd.R_alloc|apply Kd.R_drewN|apply Kd.R_drew));exact HO226.out) hb)
   have n1_:=Aside0.mk (Kd.R_below (by (with_reducible repeat (first|apply Kd.R_alloc|apply Kd.R_drewN|apply Kd.R_drew));exact HO230.out) hb)
   have n2_:=Aside0.mk (Kd.R_below (by (with_reducible repeat (first|apply Kd.R_alloc|apply Kd.R_drewN|apply Kd.R_drew));exact HO234.out) hb)
   have n3_:=Aside0.mk (Kd.R_below (by (with_reducible repeat (first|apply Kd.R_alloc|apply Kd.R_drewN|apply Kd.R_drew));exact HO239.out) hb)
   have n4_:=Aside0.mk (Kd.R_below (by (with_reducible repeat (first|apply Kd.R_alloc|apply Kd.R_drewN|apply Kd.R_drew));exact HO243.out) hb)
   have n5_:=Aside0.mk (blk_below (g:=gb222) (o:=.cells #[.bool a0_0,.slice A0_1 l0_1.length c0_1] 73 (0,0)) (by (with_reducible repeat (first|refine blk_drewN ?_ _|refine blk_drew ?_|refine blk_alloc ?_ _));exact BK222.out) hb)
   have n6_:=Aside0.mk (blk_below (g:=gb235) (o:=.cells #[.bool t231,.slice Ao36 t232.length co36] 73 (0,0)) (by (with_reducible repeat (first|refine blk_drewN ?_ _|refine blk_drew ?_|refine blk_alloc ?_ _));exact BK235.out) hb)
   have n7_:=Aside0.mk (below_step (by repeat (with_reducible first|exact HB.out|apply below_alloc|apply pw_below_drewN|apply below_drew1|refine below_set ?_ GE222.out|refine below_set ?_ GE235.out)) hb)
   clear HO226
   clear HO230
   clear HO234
   clear HO239
   clear HO243
   clear BK222
   clear BK235
   clear HB
   have HO226:=n0_
   have HO230:=n1_
   have HO234:=n2_
   have HO239:=n3_
   have HO243:=n4_
   have BK222:=n5_
   have BK235:=n6_
   have HB:=n7_
   clear n0_ n1_ n2_ n3_ n4_ n5_ n6_ n7_
   (try clear hb)
   (try clear hb2)
   (try clear hk)
   (try clear hi)
   refine hK.out _ _ ⟨(blk_cell BK235.out 0).trans rfl,(blk_cell BK235.out 1).trans rfl,(blk_cell BK222.out 0).trans rfl,(blk_cell BK222.out 1).trans rfl⟩ (fun hHeld=>?_)
   clear hK K
   refine norm_ (a':=?_) ?_ ?_
   rotate_left
   · show Act.put _ (some 19) _=_
     simp only [Act.put,List.setIfInBounds_toArray,List.set_cons_zero,List.set_cons_succ,i64_w,i32_w]
     rfl
   refine pure_ (i:=6) (N:=some 20) (v:=?_) (a':=?_) #[true,true,true,true,true,true,true] rfl rfl (by kernel_rfl) (fun _ _ _ h=>h) (Or.inl ⟨by rfl,?_⟩) ?_ ?_
   rotate_left
   · intro w'
     go_simp
     with_reducible rfl
   rotate_left
   · simp only [Act.put,List.setIfInBounds_toArray,List.set_cons_zero,List.set_cons_succ,i64_w,i32_w]
     rfl
   refine done_ (by kernel_rfl) ?_
   try go_wp2
   go_loopg [7,8] k (fun kq v7 v8 w'=>∃ (x7_1:Int) (x8_1:Int),v7 = .int .i64 x7_1∧v8 = .int .i64 x8_1∧Aside0 (octroiref02_half.l0 kq x7_1 x8_1 a0_0 l0_1 t231 t232=some r)∧Aside0 (kq≤k)∧Aside0 (Kd.R (Kd.int .i64) 3 w' w.heap.size (fun _=>True) (.slice Ao36 t232.length co36) t232)∧Aside0 (w'.heap[gb222]? = some (.cells #[.bool a0_0,(.slice A0_1 l0_1.length c0_1)] 73 (0,0)))∧Aside0 (w'.heap[gb235]? = some (.cells #[.bool t231,(.slice Ao36 t232.length co36)] 73 (0,0)))∧Aside0 (Below w.heap.size w w'))
   case atStart=>exact ⟨(0),(4611686018427387905),(by first|rfl|(simp;done)|(simp [*];done)),(by first|rfl|(simp;done)|(simp [*];done)),H',⟨Nat.le_refl _⟩,⟨by (with_reducible repeat (first|apply Kd.R_alloc|apply Kd.R_drewN|apply Kd.R_drew));exact Kd.R_mono HO234.out (fun _ hk=>trivial)⟩,⟨by (with_reducible repeat (first|refine blk_drewN ?_ _|refine blk_drew ?_|refine blk_alloc ?_ _));exact BK222.out⟩,⟨by (with_reducible repeat (first|refine blk_drewN ?_ _|refine blk_drew ?_|refine blk_alloc ?_ _));exact BK235.out⟩,⟨by repeat (with_reducible first|exact HB.out|apply below_alloc|apply pw_below_drewN|apply below_drew1|refine below_set ?_ GE222.out|refine below_set ?_ GE235.out)⟩⟩
   case round =>
    clear H'
    try clear c1
    try clear c2
    try clear p2
    try clear c3
    try clear c4
    try clear c5
    try clear c6
    try clear c9
    try clear c9b0
    try clear c17
    try clear c27
    try clear c34
    try clear hcz18_0
    try clear hcz18_1
    try clear hcz35_0
    try clear hcz35_1
    try clear hfz18_0
    try clear hfz18_1
    try clear hfz35_0
    try clear hfz35_1
    obtain ⟨x7_1,x8_1,rfl,rfl,HA,HK1,HO_236001,BK222,BK235,HB⟩:=hrel
    cases gk with
    | zero=>exact absurd HA.out (by simp [octroiref02_half.l0])
    | succ k1 =>
     have H:=HA.out
     clear HA
     simp only [octroiref02_half.l0] at H
     by_cases c44:x7_1<x8_1
     · rw [if_pos c44] at H
       have c44b0:decide (x7_1<x8_1)=true:=decide_eq_true c44
       clear c44
       replace H:=Option.bind_eq_some_iff.mp H
       obtain ⟨⟨t245,t246⟩,A450,H⟩:=H
       replace H:((octroiref01_Mul.f k1 t245 t246 t231 t232).bind fun bt249=>((octroiref01_Cmp.f k1 bt249.1 bt249.2 a0_0 l0_1).bind fun t253=>(if t253≤0 then (octroiref02_half.l0 k1 (wrap64 (x8_1 - (wrap64 (Int.tdiv (wrap64 (x8_1 - x7_1)) 2)))) x8_1 a0_0 l0_1 t231 t232) else (octroiref02_half.l0 k1 x7_1 (wrap64 ((wrap64 (x8_1 - (wrap64 (Int.tdiv (wrap64 (x8_1 - x7_1)) 2)))) - 1)) a0_0 l0_1 t231 t232))))=some r:=H
       have A45:=Aside0.mk A450
       clear A450
       replace H:=Option.bind_eq_some_iff.mp H
       obtain ⟨⟨t249,t250⟩,A460,H⟩:=H
       replace H:((octroiref01_Cmp.f k1 t249 t250 a0_0 l0_1).bind fun t253=>(if t253≤0 then (octroiref02_half.l0 k1 (wrap64 (x8_1 - (wrap64 (Int.tdiv (wrap64 (x8_1 - x7_1)) 2)))) x8_1 a0_0 l0_1 t231 t232) else (octroiref02_half.l0 k1 x7_1 (wrap64 ((wrap64 (x8_1 - (wrap64 (Int.tdiv (wrap64 (x8_1 - x7_1)) 2)))) - 1)) a0_0 l0_1 t231 t232)))=some r:=H
       have A46:=Aside0.mk A460
       clear A460
       replace H:=Option.bind_eq_some_iff.mp H
       obtain ⟨t253,A470,H⟩:=H
       replace H:(if t253≤0 then (octroiref02_half.l0 k1 (wrap64 (x8_1 - (wrap64 (Int.tdiv (wrap64 (x8_1 - x7_1)) 2)))) x8_1 a0_0 l0_1 t231 t232) else (octroiref02_half.l0 k1 x7_1 (wrap64 ((wrap64 (x8_1 - (wrap64 (Int.tdiv (wrap64 (x8_1 - x7_1)) 2)))) - 1)) a0_0 l0_1 t231 t232))=some r:=H
       have A47:=Aside0.mk A470
       clear A470
       by_cases c48:t253≤0
       · rw [if_pos c48] at H
         have c48b0:decide (t253≤0)=true:=decide_eq_true c48
         clear c48
         have H':=Aside0.mk H
         clear H
         try go_wp2
         have n0_:=Aside0.mk (Kd.R_drew HO_236001.out)
         have n1_:=Aside0.mk (blk_drew BK222.out)
         have n2_:=Aside0.mk (blk_drew BK235.out)
         have n3_:=Aside0.mk (below_drew1 HB.out)
         clear HO_236001
         clear BK222
         clear BK235
         clear HB
         have HO_236001:=n0_
         have BK222:=n1_
         have BK235:=n2_
         have HB:=n3_
         clear n0_ n1_ n2_ n3_
         refine start_ (n:=7) (S:=fun w'=>w'.cell? ⟨gb235,0,none⟩=some (.bool t231)∧w'.cell? ⟨gb235,1,none⟩=some (.slice Ao36 t232.length co36)∧w'.cell? ⟨gb222,0,none⟩=some (.bool a0_0)∧w'.cell? ⟨gb222,1,none⟩=some (.slice A0_1 l0_1.length c0_1)) (ds:=[]) #[false,false,false,false,false,false,false] (by kernel_rfl) rfl rfl ⟨(blk_cell BK235.out 0).trans rfl,(blk_cell BK235.out 1).trans rfl,(blk_cell BK222.out 0).trans rfl,(blk_cell BK222.out 1).trans rfl⟩ (fun hHeld=>?_)
         generalize wr.drew=w49 at HO_236001 BK222 BK235 HB hHeld ⊢
         refine pure_ (i:=0) (N:=some 31) (v:=?_) (a':=?_) #[true,false,false,false,false,false,false] rfl rfl (by kernel_rfl) (fun _ _ _ h=>h) (Or.inl ⟨by rfl,?_⟩) ?_ ?_
         rotate_left
         · intro w'
           go_simp
           with_reducible rfl
         rotate_left
         · simp only [Act.put,List.setIfInBounds_toArray,List.set_cons_zero,List.set_cons_succ,i64_w,i32_w]
           rfl
         refine take_ (i:=2) (N:=some 33) (v:=?_) (a':=?_) #[true,false,true,false,false,false,false] rfl rfl (by kernel_rfl) (fun _ _ _ h=>h) (Or.inl ⟨by rfl,?_⟩) hHeld ?_ ?_
         rotate_left
         · rintro w' ⟨s0,s1,s2,s3⟩
           go_simp
           with_reducible rfl
         rotate_left
         · simp only [Act.put,List.setIfInBounds_toArray,List.set_cons_zero,List.set_cons_succ,i64_w,i32_w]
           rfl
         refine take_ (i:=4) (N:=some 35) (v:=?_) (a':=?_) #[true,false,true,false,true,false,false] rfl rfl (by kernel_rfl) (fun _ _ _ h=>h) (Or.inl ⟨by rfl,?_⟩) hHeld ?_ ?_
         rotate_left
         · rintro w' ⟨s0,s1,s2,s3⟩
           go_simp
           with_reducible rfl
         rotate_left
         · simp only [Act.put,List.setIfInBounds_toArray,List.set_cons_zero,List.set_cons_succ,i64_w,i32_w]
           rfl
         refine one_ (i:=1) (N:=some 32) #[true,true,true,false,true,false,false] rfl rfl (by kernel_rfl) (by decide) (fun K hK=>?_)
         refine goes_ Try.func27 (by kernel_rfl) rfl #[.int .i64 (wrap64 (x8_1 - (wrap64 (Int.tdiv (wrap64 (x8_1 - x7_1)) 2))))] (by rfl) rfl rfl (by (try simp only [List.map_toArray,List.map_cons,List.map_nil]);first|done|rfl|(simp only [List.length_drop,List.length_take];rfl)) ?_
         with_reducible refine (octroiref01_Of.calls k1 (wrap64 (x8_1 - (wrap64 (Int.tdiv (wrap64 (x8_1 - x7_1)) 2)))) t245 t246 _ A45.out).mono ?_
         rintro e w50 ⟨v247,rfl,ho0,hb⟩
         refine ⟨_,rfl,?_⟩
         have n0_:=Aside0.mk (Kd.R_elder' (by (with_reducible repeat (first|apply Kd.R_alloc|apply Kd.R_drewN|apply Kd.R_drew));exact HO_236001.out) (Kd.R_base ho0) hb)
         have n1_:=Aside0.mk (Kd.R_lower (Kd.R_new' ho0 (Kd.R_lt (by (with_reducible repeat (first|apply Kd.R_alloc|apply Kd.R_drewN|apply Kd.R_drew));exact HO_236001.out))) (below_size (by repeat (with_reducible first|exact HB.out|apply below_alloc|apply pw_below_drewN|apply below_drew1|refine below_set ?_ GE222.out|refine below_set ?_ GE235.out))))
         have n2_:=Aside0.mk (blk_below (g:=gb222) (o:=.cells #[.bool a0_0,.slice A0_1 l0_1.length c0_1] 73 (0,0)) (by (with_reducible repeat (first|refine blk_drewN ?_ _|refine blk_drew ?_|refine blk_alloc ?_ _));exact BK222.out) hb)
         have n3_:=Aside0.mk (blk_below (g:=gb235) (o:=.cells #[.bool t231,.slice Ao36 t232.length co36] 73 (0,0)) (by (with_reducible repeat (first|refine blk_drewN ?_ _|refine blk_drew ?_|refine blk_alloc ?_ _));exact BK235.out) hb)
         have n4_:=Aside0.mk (below_step (by repeat (with_reducible first|exact HB.out|apply below_alloc|apply pw_below_drewN|apply below_drew1|refine below_set ?_ GE222.out|refine below_set ?_ GE235.out)) hb)
         clear HO_236001
         clear BK222
         clear BK235
         clear HB
         have HO_236001:=n0_
         have HO248:=n1_
         have BK222:=n2_
         have BK235:=n3_
         have HB:=n4_
         clear n0_ n1_ n2_ n3_ n4_
         (try clear hb)
         (try clear hb2)
         (try clear hk)
         (try clear hi)
         (try clear ho0)
         obtain ⟨Ao51,co51,eo51⟩:=Kd.R_slice HO248.out
         (first|subst eo51|(injection eo51 with f1_ f2_ f3_;have f4_:=f1_.symm;have f5_:=f3_.symm;clear f1_ f2_ f3_;subst f4_;subst f5_))
         refine hK.out _ _ ⟨(blk_cell BK235.out 0).trans rfl,(blk_cell BK235.out 1).trans rfl,(blk_cell BK222.out 0).trans rfl,(blk_cell BK222.out 1).trans rfl⟩ (fun hHeld=>?_)
         clear hK K
         refine norm_ (a':=?_) ?_ ?_
         rotate_left
         · show Act.put _ (some 32) _=_
           simp only [Act.put,List.setIfInBounds_toArray,List.set_cons_zero,List.set_cons_succ,i64_w,i32_w]
           rfl
         refine one_ (i:=3) (N:=some 34) #[true,true,true,true,true,false,false] rfl rfl (by kernel_rfl) (by decide) (fun K hK=>?_)
         refine goes_ Try.func58 (by kernel_rfl) rfl #[.agg #[.bool t245,.slice Ao51 t246.length co51],.agg #[.bool t231,.slice Ao36 t232.length co36]] (by rfl) rfl rfl (by (try simp only [List.map_toArray,List.map_cons,List.map_nil]);first|done|rfl|(simp only [List.length_drop,List.length_take];rfl)) ?_
         with_reducible refine (octroiref01_Mul.calls k1 t245 _ _ t246 t231 _ _ t232 t249 t250 _ ?side1 ?side2 ?side3 ?side4 A46.out).mono ?_
         (case side1=>repeat (first|exact (Kd.R_reads' HO248.out).2.2|(with_reducible refine Kd.C_alloc ?_ _)|(with_reducible refine Kd.C_drewN ?_ _)|(with_reducible refine Kd.C_drew ?_)))
         (case side2=>exact (Kd.R_reads' HO248.out).2.1)
         (case side3=>repeat (first|exact (Kd.R_reads' HO_236001.out).2.2|(with_reducible refine Kd.C_alloc ?_ _)|(with_reducible refine Kd.C_drewN ?_ _)|(with_reducible refine Kd.C_drew ?_)))
         (case side4=>exact (Kd.R_reads' HO_236001.out).2.1)
         rintro e w52 ⟨v251,rfl,ho0,hb⟩
         refine ⟨_,rfl,?_⟩
         have n0_:=Aside0.mk (Kd.R_elder' (by (with_reducible repeat (first|apply Kd.R_alloc|apply Kd.R_drewN|apply Kd.R_drew));exact HO_236001.out) (Kd.R_base ho0) hb)
         have n1_:=Aside0.mk (Kd.R_elder' (by (with_reducible repeat (first|apply Kd.R_alloc|apply Kd.R_drewN|apply Kd.R_drew));exact HO248.out) (Kd.R_base ho0) hb)
         have n2_:=Aside0.mk (Kd.R_lower (Kd.R_new' (Kd.R_new' ho0 (Kd.R_lt (by (with_reducible repeat (first|apply Kd.R_alloc|apply Kd.R_drewN|apply Kd.R_drew));exact HO_236001.out))) (Kd.R_lt (by (with_reducible repeat (first|apply Kd.R_alloc|apply Kd.R_drewN|apply Kd.R_drew));exact HO248.out))) (below_size (by repeat (with_reducible first|exact HB.out|apply below_alloc|apply pw_below_drewN|apply below_drew1|refine below_set ?_ GE222.out|refine below_set ?_ GE235.out))))
         have n3_:=Aside0.mk (blk_below (g:=gb222) (o:=.cells #[.bool a0_0,.slice A0_1 l0_1.length c0_1] 73 (0,0)) (by (with_reducible repeat (first|refine blk_drewN ?_ _|refine blk_drew ?_|refine blk_alloc ?_ _));exact BK222.out) hb)
         have n4_:=Aside0.mk (blk_below (g:=gb235) (o:=.cells #[.bool t231,.slice Ao36 t232.length co36] 73 (0,0)) (by (with_reducible repeat (first|refine blk_drewN ?_ _|refine blk_drew ?_|refine blk_alloc ?_ _));exact BK235.out) hb)
         have n5_:=Aside0.mk (below_step (by repeat (with_reducible first|exact HB.out|apply below_alloc|apply pw_below_drewN|apply below_drew1|refine below_set ?_ GE222.out|refine below_set ?_ GE235.out)) hb)
         clear HO_236001
         clear HO248
         clear BK222
         clear BK235
         clear HB
         have HO_236001:=n0_
         have HO248:=n1_
         have HO252:=n2_
         have BK222:=n3_
         have BK235:=n4_
         have HB:=n5_
         clear n0_ n1_ n2_ n3_ n4_ n5_
         (try clear hb)
         (try clear hb2)
         (try clear hk)
         (try clear hi)
         (try clear ho0)
         obtain ⟨Ao53,co53,eo53⟩:=Kd.R_slice HO252.out
         (first|subst eo53|(injection eo53 with f1_ f2_ f3_;have f4_:=f1_.symm;have f5_:=f3_.symm;clear f1_ f2_ f3_;subst f4_;subst f5_))
         refine hK.out _ _ ⟨(blk_cell BK235.out 0).trans rfl,(blk_cell BK235.out 1).trans rfl,(blk_cell BK222.out 0).trans rfl,(blk_cell BK222.out 1).trans rfl⟩ (fun hHeld=>?_)
         clear hK K
         refine norm_ (a':=?_) ?_ ?_
         rotate_left
         · show Act.put _ (some 34) _=_
           simp only [Act.put,List.setIfInBounds_toArray,List.set_cons_zero,List.set_cons_succ,i64_w,i32_w]
           rfl
         refine one_ (i:=5) (N:=some 36) #[true,true,true,true,true,true,false] rfl rfl (by kernel_rfl) (by decide) (fun K hK=>?_)
         refine goes_ Try.func45 (by kernel_rfl) rfl #[.agg #[.bool t249,.slice Ao53 t250.length co53],.agg #[.bool a0_0,.slice A0_1 l0_1.length c0_1]] (by rfl) rfl rfl (by (try simp only [List.map_toArray,List.map_cons,List.map_nil]);first|done|rfl|(simp only [List.length_drop,List.length_take];rfl)) ?_
         with_reducible refine (octroiref01_Cmp.calls k1 t249 _ _ t250 a0_0 _ _ l0_1 t253 _ ?side1 ?side2 ?side3 ?side4 A47.out).mono ?_
         (case side1=>repeat (first|exact (Kd.R_reads' HO252.out).2.2|(with_reducible refine Kd.C_alloc ?_ _)|(with_reducible refine Kd.C_drewN ?_ _)|(with_reducible refine Kd.C_drew ?_)))
         (case side2=>exact (Kd.R_reads' HO252.out).2.1)
         (case side3=>repeat (first|exact (Kd.C_below HR0_1.out HB.out)|(with_reducible refine Kd.C_alloc ?_ _)|(with_reducible refine Kd.C_drewN ?_ _)|(with_reducible refine Kd.C_drew ?_)))
         (case side4=>exact HC0_1.out)
         rintro e w54 ⟨rfl,hb⟩
         refine ⟨_,rfl,?_⟩
         have n0_:=Aside0.mk (Kd.R_below (by (with_reducible repeat (first|apply Kd.R_alloc|apply Kd.R_drewN|apply Kd.R_drew));exact HO_236001.out) hb)
         have n1_:=Aside0.mk (Kd.R_below (by (with_reducible repeat (first|apply Kd.R_alloc|apply Kd.R_drewN|apply Kd.R_drew));exact HO248.out) hb)
         have n2_:=Aside0.mk (Kd.R_below (by (with_reducible repeat (first|apply Kd.R_alloc|apply Kd.R_drewN|apply Kd.R_drew));exact HO252.out) hb)
         have n3_:=Aside0.mk (blk_below (g:=gb222) (o:=.cells #[.bool a0_0,.slice A0_1 l0_1.length c0_1] 73 (0,0)) (by (with_reducible repeat (first|refine blk_drewN ?_ _|refine blk_drew ?_|refine blk_alloc ?_ _));exact BK222.out) hb)
         have n4_:=Aside0.mk (blk_below (g:=gb235) (o:=.cells #[.bool t231,.slice Ao36 t232.length co36] 73 (0,0)) (by (with_reducible repeat (first|refine blk_drewN ?_ _|refine blk_drew ?_|refine blk_alloc ?_ _));exact BK235.out) hb)
         have n5_:=Aside0.mk (below_step (by repeat (with_reducible first|exact HB.out|apply below_alloc|apply pw_below_drewN|apply below_drew1|refine below_set ?_ GE222.out|refine below_set ?_ GE235.out)) hb)
         clear HO_236001
         clear HO248
         clear HO252
         clear BK222
         clear BK235
         clear HB
         have HO_236001:=n0_
         have HO248:=n1_
         have HO252:=n2_
         have BK222:=n3_
         have BK235:=n4_
         have HB:=n5_
         clear n0_ n1_ n2_ n3_ n4_ n5_
         (try clear hb)
         (try clear hb2)
         (try clear hk)
         (try clear hi)
         refine hK.out _ _ ⟨(blk_cell BK235.out 0).trans rfl,(blk_cell BK235.out 1).trans rfl,(blk_cell BK222.out 0).trans rfl,(blk_cell BK222.out 1).trans rfl⟩ (fun hHeld=>?_)
         clear hK K
         refine norm_ (a':=?_) ?_ ?_
         rotate_left
         · show Act.put _ (some 36) _=_
           simp only [Act.put,List.setIfInBounds_toArray,List.set_cons_zero,List.set_cons_succ,i64_w,i32_w]
           rfl
         refine pure_ (i:=6) (N:=some 37) (v:=?_) (a':=?_) #[true,true,true,true,true,true,true] rfl rfl (by kernel_rfl) (fun _ _ _ h=>h) (Or.inl ⟨by rfl,?_⟩) ?_ ?_
         rotate_left
         · intro w'
           go_simp
           with_reducible rfl
         rotate_left
         · simp only [Act.put,List.setIfInBounds_toArray,List.set_cons_zero,List.set_cons_succ,i64_w,i32_w]
           rfl
         refine done_ (by kernel_rfl) ?_
         try go_wp2
         go_roundg k1
         case measure=>have:=HK1.out;omega
         case rel=>exact ⟨(wrap64 (x8_1 - (wrap64 (Int.tdiv (wrap64 (x8_1 - x7_1)) 2)))),(x8_1),(by first|rfl|(simp;done)|(simp [*];done)),(by first|rfl|(simp;done)|(simp [*];done)),H',⟨by have:=HK1.out;omega⟩,⟨by (with_reducible repeat (first|apply Kd.R_alloc|apply Kd.R_drewN|apply Kd.R_drew));exact Kd.R_mono HO_236001.out (fun _ hk=>trivial)⟩,⟨by (with_reducible repeat (first|refine blk_drewN ?_ _|refine blk_drew ?_|refine blk_alloc ?_ _));exact BK222.out⟩,⟨by (with_reducible repeat (first|refine blk_drewN ?_ _|refine blk_drew ?_|refine blk_alloc ?_ _));exact BK235.out⟩,⟨by repeat (with_reducible first|exact HB.out|apply below_alloc|apply pw_below_drewN|apply below_drew1|refine below_set ?_ GE222.out|refine below_set ?_ GE235.out)⟩⟩
       · rw [if_neg c48] at H
         have c48b0:decide (t253≤0)=false:=decide_eq_false c48
         clear c48
         have H':=Aside0.mk H
         clear H
         try go_wp2
         have n0_:=Aside0.mk (Kd.R_drew HO_236001.out)
         have n1_:=Aside0.mk (blk_drew BK222.out)
         have n2_:=Aside0.mk (blk_drew BK235.out)
         have n3_:=Aside0.mk (below_drew1 HB.out)
         clear HO_236001
         clear BK222
         clear BK235
         clear HB
         have HO_236001:=n0_
         have BK222:=n1_
         have BK235:=n2_
         have HB:=n3_
         clear n0_ n1_ n2_ n3_
         refine start_ (n:=7) (S:=fun w'=>w'.cell? ⟨gb235,0,none⟩=some (.bool t231)∧w'.cell? ⟨gb235,1,none⟩=some (.slice Ao36 t232.length co36)∧w'.cell? ⟨gb222,0,none⟩=some (.bool a0_0)∧w'.cell? ⟨gb222,1,none⟩=some (.slice A0_1 l0_1.length c0_1)) (ds:=[]) #[false,false,false,false,false,false,false] (by kernel_rfl) rfl rfl ⟨(blk_cell BK235.out 0).trans rfl,(blk_cell BK235.out 1).trans rfl,(blk_cell BK222.out 0).trans rfl,(blk_cell BK222.out 1).trans rfl⟩ (fun hHeld=>?_)
         generalize wr.drew=w55 at HO_236001 BK222 BK235 HB hHeld ⊢
         refine pure_ (i:=0) (N:=some 31) (v:=?_) (a':=?_) #[true,false,false,false,false,false,false] rfl rfl (by kernel_rfl) (fun _ _ _ h=>h) (Or.inl ⟨by rfl,?_⟩) ?_ ?_
         rotate_left
         · intro w'
           go_simp
           with_reducible rfl
         rotate_left
         · simp only [Act.put,List.setIfInBounds_toArray,List.set_cons_zero,List.set_cons_succ,i64_w,i32_w]
           rfl
         refine take_ (i:=2) (N:=some 33) (v:=?_) (a':=?_) #[true,false,true,false,false,false,false] rfl rfl (by kernel_rfl) (fun _ _ _ h=>h) (Or.inl ⟨by rfl,?_⟩) hHeld ?_ ?_
         rotate_left
         · rintro w' ⟨s0,s1,s2,s3⟩
           go_simp
           with_reducible rfl
         rotate_left
         · simp only [Act.put,List.setIfInBounds_toArray,List.set_cons_zero,List.set_cons_succ,i64_w,i32_w]
           rfl
         refine take_ (i:=4) (N:=some 35) (v:=?_) (a':=?_) #[true,false,true,false,true,false,false] rfl rfl (by kernel_rfl) (fun _ _ _ h=>h) (Or.inl ⟨by rfl,?_⟩) hHeld ?_ ?_
         rotate_left
         · rintro w' ⟨s0,s1,s2,s3⟩
           go_simp
           with_reducible rfl
         rotate_left
         · simp only [Act.put,List.setIfInBounds_toArray,List.set_cons_zero,List.set_cons_succ,i64_w,i32_w]
           rfl
         refine one_ (i:=1) (N:=some 32) #[true,true,true,false,true,false,false] rfl rfl (by kernel_rfl) (by decide) (fun K hK=>?_)
         refine goes_ Try.func27 (by kernel_rfl) rfl #[.int .i64 (wrap64 (x8_1 - (wrap64 (Int.tdiv (wrap64 (x8_1 - x7_1)) 2))))] (by rfl) rfl rfl (by (try simp only [List.map_toArray,List.map_cons,List.map_nil]);first|done|rfl|(simp only [List.length_drop,List.length_take];rfl)) ?_
         with_reducible refine (octroiref01_Of.calls k1 (wrap64 (x8_1 - (wrap64 (Int.tdiv (wrap64 (x8_1 - x7_1)) 2)))) t245 t246 _ A45.out).mono ?_
         rintro e w56 ⟨v247,rfl,ho0,hb⟩
         refine ⟨_,rfl,?_⟩
         have n0_:=Aside0.mk (Kd.R_elder' (by (with_reducible repeat (first|apply Kd.R_alloc|apply Kd.R_drewN|apply Kd.R_drew));exact HO_236001.out) (Kd.R_base ho0) hb)
         have n1_:=Aside0.mk (Kd.R_lower (Kd.R_new' ho0 (Kd.R_lt (by (with_reducible repeat (first|apply Kd.R_alloc|apply Kd.R_drewN|apply Kd.R_drew));exact HO_236001.out))) (below_size (by repeat (with_reducible first|exact HB.out|apply below_alloc|apply pw_below_drewN|apply below_drew1|refine below_set ?_ GE222.out|refine below_set ?_ GE235.out))))
         have n2_:=Aside0.mk (blk_below (g:=gb222) (o:=.cells #[.bool a0_0,.slice A0_1 l0_1.length c0_1] 73 (0,0)) (by (with_reducible repeat (first|refine blk_drewN ?_ _|refine blk_drew ?_|refine blk_alloc ?_ _));exact BK222.out) hb)
         have n3_:=Aside0.mk (blk_below (g:=gb235) (o:=.cells #[.bool t231,.slice Ao36 t232.length co36] 73 (0,0)) (by (with_reducible repeat (first|refine blk_drewN ?_ _|refine blk_drew ?_|refine blk_alloc ?_ _));exact BK235.out) hb)
         have n4_:=Aside0.mk (below_step (by repeat (with_reducible first|exact HB.out|apply below_alloc|apply pw_below_drewN|apply below_drew1|refine below_set ?_ GE222.out|refine below_set ?_ GE235.out)) hb)
         clear HO_236001
         clear BK222
         clear BK235
         clear HB
         have HO_236001:=n0_
         have HO248:=n1_
         have BK222:=n2_
         have BK235:=n3_
         have HB:=n4_
         clear n0_ n1_ n2_ n3_ n4_
         (try clear hb)
         (try clear hb2)
         (try clear hk)
         (try clear hi)
         (try clear ho0)
         obtain ⟨Ao57,co57,eo57⟩:=Kd.R_slice HO248.out
         (first|subst eo57|(injection eo57 with f1_ f2_ f3_;have f4_:=f1_.symm;have f5_:=f3_.symm;clear f1_ f2_ f3_;subst f4_;subst f5_))
         refine hK.out _ _ ⟨(blk_cell BK235.out 0).trans rfl,(blk_cell BK235.out 1).trans rfl,(blk_cell BK222.out 0).trans rfl,(blk_cell BK222.out 1).trans rfl⟩ (fun hHeld=>?_)
         clear hK K
         refine norm_ (a':=?_) ?_ ?_
         rotate_left
         · show Act.put _ (some 32) _=_
           simp only [Act.put,List.setIfInBounds_toArray,List.set_cons_zero,List.set_cons_succ,i64_w,i32_w]
           rfl
         refine one_ (i:=3) (N:=some 34) #[true,true,true,true,true,false,false] rfl rfl (by kernel_rfl) (by decide) (fun K hK=>?_)
         refine goes_ Try.func58 (by kernel_rfl) rfl #[.agg #[.bool t245,.slice Ao57 t246.length co57],.agg #[.bool t231,.slice Ao36 t232.length co36]] (by rfl) rfl rfl (by (try simp only [List.map_toArray,List.map_cons,List.map_nil]);first|done|rfl|(simp only [List.length_drop,List.length_take];rfl)) ?_
         with_reducible refine (octroiref01_Mul.calls k1 t245 _ _ t246 t231 _ _ t232 t249 t250 _ ?side1 ?side2 ?side3 ?side4 A46.out).mono ?_
         (case side1=>repeat (first|exact (Kd.R_reads' HO248.out).2.2|(with_reducible refine Kd.C_alloc ?_ _)|(with_reducible refine Kd.C_drewN ?_ _)|(with_reducible refine Kd.C_drew ?_)))
         (case side2=>exact (Kd.R_reads' HO248.out).2.1)
         (case side3=>repeat (first|exact (Kd.R_reads' HO_236001.out).2.2|(with_reducible refine Kd.C_alloc ?_ _)|(with_reducible refine Kd.C_drewN ?_ _)|(with_reducible refine Kd.C_drew ?_)))
         (case side4=>exact (Kd.R_reads' HO_236001.out).2.1)
         rintro e w58 ⟨v251,rfl,ho0,hb⟩
         refine ⟨_,rfl,?_⟩
         have n0_:=Aside0.mk (Kd.R_elder' (by (with_reducible repeat (first|apply Kd.R_alloc|apply Kd.R_drewN|apply Kd.R_drew));exact HO_236001.out) (Kd.R_base ho0) hb)
         have n1_:=Aside0.mk (Kd.R_elder' (by (with_reducible repeat (first|apply Kd.R_alloc|apply Kd.R_drewN|apply Kd.R_drew));exact HO248.out) (Kd.R_base ho0) hb)
         have n2_:=Aside0.mk (Kd.R_lower (Kd.R_new' (Kd.R_new' ho0 (Kd.R_lt (by (with_reducible repeat (first|apply Kd.R_alloc|apply Kd.R_drewN|apply Kd.R_drew));exact HO_236001.out))) (Kd.R_lt (by (with_reducible repeat (first|apply Kd.R_alloc|apply Kd.R_drewN|apply Kd.R_drew));exact HO248.out))) (below_size (by repeat (with_reducible first|exact HB.out|apply below_alloc|apply pw_below_drewN|apply below_drew1|refine below_set ?_ GE222.out|refine below_set ?_ GE235.out))))
         have n3_:=Aside0.mk (blk_below (g:=gb222) (o:=.cells #[.bool a0_0,.slice A0_1 l0_1.length c0_1] 73 (0,0)) (by (with_reducible repeat (first|refine blk_drewN ?_ _|refine blk_drew ?_|refine blk_alloc ?_ _));exact BK222.out) hb)
         have n4_:=Aside0.mk (blk_below (g:=gb235) (o:=.cells #[.bool t231,.slice Ao36 t232.length co36] 73 (0,0)) (by (with_reducible repeat (first|refine blk_drewN ?_ _|refine blk_drew ?_|refine blk_alloc ?_ _));exact BK235.out) hb)
         have n5_:=Aside0.mk (below_step (by repeat (with_reducible first|exact HB.out|apply below_alloc|apply pw_below_drewN|apply below_drew1|refine below_set ?_ GE222.out|refine below_set ?_ GE235.out)) hb)
         clear HO_236001
         clear HO248
         clear BK222
         clear BK235
         clear HB
         have HO_236001:=n0_
         have HO248:=n1_
         have HO252:=n2_
         have BK222:=n3_
         have BK235:=n4_
         have HB:=n5_
         clear n0_ n1_ n2_ n3_ n4_ n5_
         (try clear hb)
         (try clear hb2)
         (try clear hk)
         (try clear hi)
         (try clear ho0)
         obtain ⟨Ao59,co59,eo59⟩:=Kd.R_slice HO252.out
         (first|subst eo59|(injection eo59 with f1_ f2_ f3_;have f4_:=f1_.symm;have f5_:=f3_.symm;clear f1_ f2_ f3_;subst f4_;subst f5_))
         refine hK.out _ _ ⟨(blk_cell BK235.out 0).trans rfl,(blk_cell BK235.out 1).trans rfl,(blk_cell BK222.out 0).trans rfl,(blk_cell BK222.out 1).trans rfl⟩ (fun hHeld=>?_)
         clear hK K
         refine norm_ (a':=?_) ?_ ?_
         rotate_left
         · show Act.put _ (some 34) _=_
           simp only [Act.put,List.setIfInBounds_toArray,List.set_cons_zero,List.set_cons_succ,i64_w,i32_w]
           rfl
         refine one_ (i:=5) (N:=some 36) #[true,true,true,true,true,true,false] rfl rfl (by kernel_rfl) (by decide) (fun K hK=>?_)
         refine goes_ Try.func45 (by kernel_rfl) rfl #[.agg #[.bool t249,.slice Ao59 t250.length co59],.agg #[.bool a0_0,.slice A0_1 l0_1.length c0_1]] (by rfl) rfl rfl (by (try simp only [List.map_toArray,List.map_cons,List.map_nil]);first|done|rfl|(simp only [List.length_drop,List.length_take];rfl)) ?_
         with_reducible refine (octroiref01_Cmp.calls k1 t249 _ _ t250 a0_0 _ _ l0_1 t253 _ ?side1 ?side2 ?side3 ?side4 A47.out).mono ?_
         (case side1=>repeat (first|exact (Kd.R_reads' HO252.out).2.2|(with_reducible refine Kd.C_alloc ?_ _)|(with_reducible refine Kd.C_drewN ?_ _)|(with_reducible refine Kd.C_drew ?_)))
         (case side2=>exact (Kd.R_reads' HO252.out).2.1)
         (case side3=>repeat (first|exact (Kd.C_below HR0_1.out HB.out)|(with_reducible refine Kd.C_alloc ?_ _)|(with_reducible refine Kd.C_drewN ?_ _)|(with_reducible refine Kd.C_drew ?_)))
         (case side4=>exact HC0_1.out)
         rintro e w60 ⟨rfl,hb⟩
         refine ⟨_,rfl,?_⟩
         have n0_:=Aside0.mk (Kd.R_below (by (with_reducible repeat (first|apply Kd.R_alloc|apply Kd.R_drewN|apply Kd.R_drew));exact HO_236001.out) hb)
         have n1_:=Aside0.mk (Kd.R_below (by (with_reducible repeat (first|apply Kd.R_alloc|apply Kd.R_drewN|apply Kd.R_drew));exact HO248.out) hb)
         have n2_:=Aside0.mk (Kd.R_below (by (with_reducible repeat (first|apply Kd.R_alloc|apply Kd.R_drewN|apply Kd.R_drew));exact HO252.out) hb)
         have n3_:=Aside0.mk (blk_below (g:=gb222) (o:=.cells #[.bool a0_0,.slice A0_1 l0_1.length c0_1] 73 (0,0)) (by (with_reducible repeat (first|refine blk_drewN ?_ _|refine blk_drew ?_|refine blk_alloc ?_ _));exact BK222.out) hb)
         have n4_:=Aside0.mk (blk_below (g:=gb235) (o:=.cells #[.bool t231,.slice Ao36 t232.length co36] 73 (0,0)) (by (with_reducible repeat (first|refine blk_drewN ?_ _|refine blk_drew ?_|refine blk_alloc ?_ _));exact BK235.out) hb)
         have n5_:=Aside0.mk (below_step (by repeat (with_reducible first|exact HB.out|apply below_alloc|apply pw_below_drewN|apply below_drew1|refine below_set ?_ GE222.out|refine below_set ?_ GE235.out)) hb)
         clear HO_236001
         clear HO248
         clear HO252
         clear BK222
         clear BK235
         clear HB
         have HO_236001:=n0_
         have HO248:=n1_
         have HO252:=n2_
         have BK222:=n3_
         have BK235:=n4_
         have HB:=n5_
         clear n0_ n1_ n2_ n3_ n4_ n5_
         (try clear hb)
         (try clear hb2)
         (try clear hk)
         (try clear hi)
         refine hK.out _ _ ⟨(blk_cell BK235.out 0).trans rfl,(blk_cell BK235.out 1).trans rfl,(blk_cell BK222.out 0).trans rfl,(blk_cell BK222.out 1).trans rfl⟩ (fun hHeld=>?_)
         clear hK K
         refine norm_ (a':=?_) ?_ ?_
         rotate_left
         · show Act.put _ (some 36) _=_
           simp only [Act.put,List.setIfInBounds_toArray,List.set_cons_zero,List.set_cons_succ,i64_w,i32_w]
           rfl
         refine pure_ (i:=6) (N:=some 37) (v:=?_) (a':=?_) #[true,true,true,true,true,true,true] rfl rfl (by kernel_rfl) (fun _ _ _ h=>h) (Or.inl ⟨by rfl,?_⟩) ?_ ?_
         rotate_left
         · intro w'
           go_simp
           with_reducible rfl
         rotate_left
         · simp only [Act.put,List.setIfInBounds_toArray,List.set_cons_zero,List.set_cons_succ,i64_w,i32_w]
           rfl
         refine done_ (by kernel_rfl) ?_
         try go_wp2
         go_roundg k1
         case measure=>have:=HK1.out;omega
         case rel=>exact ⟨(x7_1),(wrap64 ((wrap64 (x8_1 - (wrap64 (Int.tdiv (wrap64 (x8_1 - x7_1)) 2)))) - 1)),(by first|rfl|(simp;done)|(simp [*];done)),(by first|rfl|(simp;done)|(simp [*];done)),H',⟨by have:=HK1.out;omega⟩,⟨by (with_reducible repeat (first|apply Kd.R_alloc|apply Kd.R_drewN|apply Kd.R_drew));exact Kd.R_mono HO_236001.out (fun _ hk=>trivial)⟩,⟨by (with_reducible repeat (first|refine blk_drewN ?_ _|refine blk_drew ?_|refine blk_alloc ?_ _));exact BK222.out⟩,⟨by (with_reducible repeat (first|refine blk_drewN ?_ _|refine blk_drew ?_|refine blk_alloc ?_ _));exact BK235.out⟩,⟨by repeat (with_reducible first|exact HB.out|apply below_alloc|apply pw_below_drewN|apply below_drew1|refine below_set ?_ GE222.out|refine below_set ?_ GE235.out)⟩⟩
     · rw [if_neg c44] at H
       have c44b0:decide (x7_1<x8_1)=false:=decide_eq_false c44
       clear c44
       obtain rfl:=Option.some.inj H
       go_wp2
       go_ret
       exact ⟨by first|rfl|(simp [errW_none,errW_some]<;>rfl)|(simp [*,errW_none,errW_some]<;>rfl),by repeat (with_reducible first|exact HB.out|apply below_alloc|apply pw_below_drewN|apply below_drew1|refine below_set ?_ GE222.out|refine below_set ?_ GE235.out)⟩
end Go.Proofs.Ytlfkfajodnkkhaa.Print
