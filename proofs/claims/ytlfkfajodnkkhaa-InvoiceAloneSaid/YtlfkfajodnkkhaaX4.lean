/- A text of this seat. -/
import Derived.Test.YtlfkfajodnkkhaaX0
import Derived.Test.YtlfkfajodnkkhaaX2
import Derived.Test.YtlfkfajodnkkhaaX3
namespace Go.Proofs.Ytlfkfajodnkkhaa.Print
open Go.RowKit Go.Proofs.YtlfkfajodnkkhaaW.PrintWords Go.Proofs.YtlfkfajodnkkhaaW.PrintLast Go.Proofs.YtlfkfajodnkkhaaW.PrintMore
attribute [local go_sem] max2_int min2_int max_two min_two max_three min_three max_four min_four   -- for this text's walks alone
set_option linter.unusedVariables false
set_option linter.unusedSimpArgs false
def octroiref01_Int.l0:Nat→Int→Int→Bool→List Int→Option (Int × Bool)
 | 0,_,_,_,_=>none
 | k+1,x4,x5,x182000,x182001=>if x5≥0 then (if 0≤x5 then (if x5<(x182001.length:Int) then (octroiref01_Int.l0 k (wrap64 ((wrap64 (x4 * 2147483648))+(rd x182001 x5))) (wrap64 (x5 - 1)) x182000 x182001) else (none)) else (none)) else (if x182000=true then (some (wrap64 (-x4),true)) else (some (x4,true)))
def octroiref01_Int.f (k:Nat) (a0_0:Bool) (l0_1:List Int):Option (Int × Bool):=(octroiref01_Of.f k 4611686018427387904).bind fun bt182=>((octroiref01_cmp.f k l0_1 bt182.2).bind fun t186=>(if t186>0 then (some (0,false)) else (octroiref01_Int.l0 k 0 (wrap64 ((l0_1.length:Int) - 1)) a0_0 l0_1)))
set_option maxHeartbeats 8000000 in
set_option maxRecDepth 100000 in
theorem octroiref01_Int.calls (k:Nat) (a0_0:Bool) (A0_1:Option Addr) (c0_1:Nat) (l0_1:List Int) (r1:Int) (r2:Bool) (w:World) (hr0_1:Kd.C (Kd.int .i64) w A0_1 l0_1.length l0_1) (hc0_1:l0_1.length≤c0_1) (h:octroiref01_Int.f k a0_0 l0_1=some (r1,r2)) :
 Calls Try.prog 28 #[.agg #[.bool a0_0,.slice A0_1 l0_1.length c0_1]] w fun e w'=>e = .returned (.tuple #[.int .i64 r1,.bool r2])∧Below w.heap.size w w':=by
 have hu73:=Try.underlying73
 have HR0_1:=Aside0.mk hr0_1
 have HC0_1:=Aside0.mk hc0_1
 clear hr0_1 hc0_1
 have HB:=Aside0.mk (Below.refl w.heap.size w)
 have H:((octroiref01_Of.f k 4611686018427387904).bind fun bt182=>((octroiref01_cmp.f k l0_1 bt182.2).bind fun t186=>(if t186>0 then (some (0,false)) else (octroiref01_Int.l0 k 0 (wrap64 ((l0_1.length:Int) - 1)) a0_0 l0_1))))=some (r1,r2):=h
 clear h
 replace H:=Option.bind_eq_some_iff.mp H
 obtain ⟨⟨t182,t183⟩,A20,H⟩:=H
 replace H:((octroiref01_cmp.f k l0_1 t183).bind fun t186=>(if t186>0 then (some (0,false)) else (octroiref01_Int.l0 k 0 (wrap64 ((l0_1.length:Int) - 1)) a0_0 l0_1)))=some (r1,r2):=H
 have A2:=Aside0.mk A20
 clear A20
 replace H:=Option.bind_eq_some_iff.mp H
 obtain ⟨t186,A30,H⟩:=H
 replace H:(if t186>0 then (some (0,false)) else (octroiref01_Int.l0 k 0 (wrap64 ((l0_1.length:Int) - 1)) a0_0 l0_1))=some (r1,r2):=H
 have A3:=Aside0.mk A30
 clear A30
 by_cases c4:t186>0
 · rw [if_pos c4] at H
   have c4b0:decide (0<t186)=true:=decide_eq_true c4
   clear c4
   simp only [Option.some.injEq,Prod.mk.injEq] at H
   obtain ⟨rfl,rfl⟩:=H
   go_enter Try.func28,Try.ntmps28
   try go_wp2_with (first|((with_reducible refine gate_dst (N:=1) rfl ?_);refine box_event ?hg (N:=1) ?hd (cs:=#[.bool a0_0,.slice A0_1 l0_1.length c0_1]) (t:=73) ?hr ?_;(case hd=>rfl);(case hg=>rfl);(case hr=>first|(go_simp;done)|(go_simp;rfl));intro gb181 hg w5 hbox hb;have n0_:=Aside0.mk (below_step (by repeat (with_reducible first|exact HB.out|apply below_alloc|apply pw_below_drewN|apply below_drew1)) hb);have n1_:=Aside0.mk (hbox);have n2_:=Aside0.mk ((by rw [hg];exact (below_size (by repeat (with_reducible first|exact HB.out|apply below_alloc|apply pw_below_drewN|apply below_drew1))):w.heap.size≤gb181));have n3_:=Aside0.mk ((by rw [hg];exact (below_size (by repeat (with_reducible first|exact HB.out|apply below_alloc|apply pw_below_drewN|apply below_drew1))):w.heap.size≤gb181));clear HB;have HB:=n0_;have BK181:=n1_;have GW181:=n2_;have GE181:=n3_;clear n0_ n1_ n2_ n3_;clear hb hbox hg))
   have n0_:=Aside0.mk (blk_drew BK181.out)
   have n1_:=Aside0.mk (below_drew1 HB.out)
   clear BK181
   clear HB
   have BK181:=n0_
   have HB:=n1_
   clear n0_ n1_
   refine start_ (n:=6) (S:=fun w'=>w'.cell? ⟨gb181,0,none⟩=some (.bool a0_0)∧w'.cell? ⟨gb181,1,none⟩=some (.slice A0_1 l0_1.length c0_1)) (ds:=[]) #[false,false,false,false,false,false] (by kernel_rfl) rfl rfl ⟨(blk_cell BK181.out 0).trans rfl,(blk_cell BK181.out 1).trans rfl⟩ (fun hHeld=>?_)
   generalize w5.drew=w6 at BK181 HB hHeld ⊢
   refine pure_ (i:=0) (N:=some 6) (v:=?_) (a':=?_) #[true,false,false,false,false,false] rfl rfl (by kernel_rfl) (fun _ _ _ h=>h) (Or.inl ⟨by rfl,?_⟩) ?_ ?_
   rotate_left
   · intro w'
     go_simp
     with_reducible rfl
   rotate_left
   · simp only [Act.put,List.setIfInBounds_toArray,List.set_cons_zero,List.set_cons_succ,i64_w,i32_w]
     rfl
   refine take_ (i:=1) (N:=some 7) (v:=?_) (a':=?_) #[true,true,false,false,false,false] rfl rfl (by kernel_rfl) (fun _ _ _ h=>h) (Or.inl ⟨by rfl,?_⟩) hHeld ?_ ?_
   rotate_left
   · rintro w' ⟨s0,s1⟩
     go_simp
     with_reducible rfl
   rotate_left
   · simp only [Act.put,List.setIfInBounds_toArray,List.set_cons_zero,List.set_cons_succ,i64_w,i32_w]
     rfl
   refine one_ (i:=2) (N:=some 8) #[true,true,true,false,false,false] rfl rfl (by kernel_rfl) (by decide) (fun K hK=>?_)
   refine goes_ Try.func27 (by kernel_rfl) rfl #[.int .i64 4611686018427387904] (by rfl) rfl rfl (by (try simp only [List.map_toArray,List.map_cons,List.map_nil]);first|done|rfl|(simp only [List.length_drop,List.length_take];rfl)) ?_
   with_reducible refine (octroiref01_Of.calls k 4611686018427387904 t182 t183 _ A2.out).mono ?_
   rintro e w7 ⟨v184,rfl,ho0,hb⟩
   refine ⟨_,rfl,?_⟩
   have n0_:=Aside0.mk (Kd.R_lower ho0 (below_size (by repeat (with_reducible first|exact HB.out|apply below_alloc|apply pw_below_drewN|apply below_drew1|refine below_set ?_ GE181.out))))
   have n1_:=Aside0.mk (blk_below (g:=gb181) (o:=.cells #[.bool a0_0,.slice A0_1 l0_1.length c0_1] 73 (0,0)) (by (with_reducible repeat (first|refine blk_drewN ?_ _|refine blk_drew ?_|refine blk_alloc ?_ _));exact BK181.out) hb)
   have n2_:=Aside0.mk (below_step (by repeat (with_reducible first|exact HB.out|apply below_alloc|apply pw_below_drewN|apply below_drew1|refine below_set ?_ GE181.out)) hb)
   clear BK181
   clear HB
   have HO185:=n0_
   have BK181:=n1_
   have HB:=n2_
   clear n0_ n1_ n2_
   (try clear hb)
   (try clear hb2)
   (try clear hk)
   (try clear hi)
   (try clear ho0)
   obtain ⟨Ao8,co8,eo8⟩:=Kd.R_slice HO185.out
   (first|subst eo8|(injection eo8 with f1_ f2_ f3_;have f4_:=f1_.symm;have f5_:=f3_.symm;clear f1_ f2_ f3_;subst f4_;subst f5_))
   refine hK.out _ _ ⟨(blk_cell BK181.out 0).trans rfl,(blk_cell BK181.out 1).trans rfl⟩ (fun hHeld=>?_)
   clear hK K
   refine norm_ (a':=?_) ?_ ?_
   rotate_left
   · show Act.put _ (some 8) _=_
     simp only [Act.put,List.setIfInBounds_toArray,List.set_cons_zero,List.set_cons_succ,i64_w,i32_w]
     rfl
   refine pure_ (i:=3) (N:=some 9) (v:=?_) (a':=?_) #[true,true,true,true,false,false] rfl rfl (by kernel_rfl) (fun _ _ _ h=>h) (Or.inl ⟨by rfl,?_⟩) ?_ ?_
   rotate_left
   · intro w'
     go_simp
     with_reducible rfl
   rotate_left
   · simp only [Act.put,List.setIfInBounds_toArray,List.set_cons_zero,List.set_cons_succ,i64_w,i32_w]
     rfl
   refine one_ (i:=4) (N:=some 10) #[true,true,true,true,true,false] rfl rfl (by kernel_rfl) (by decide) (fun K hK=>?_)
   refine goes_ Try.func47 (by kernel_rfl) rfl #[.slice A0_1 l0_1.length c0_1,.slice Ao8 t183.length co8] (by rfl) rfl rfl (by (try simp only [List.map_toArray,List.map_cons,List.map_nil]);first|done|rfl|(simp only [List.length_drop,List.length_take];rfl)) ?_
   with_reducible refine (octroiref01_cmp.calls k _ _ l0_1 _ _ t183 t186 _ ?side1 ?side2 ?side3 ?side4 A3.out).mono ?_
   (case side1=>repeat (first|exact (Kd.C_below HR0_1.out HB.out)|(with_reducible refine Kd.C_alloc ?_ _)|(with_reducible refine Kd.C_drewN ?_ _)|(with_reducible refine Kd.C_drew ?_)))
   (case side2=>exact HC0_1.out)
   (case side3=>repeat (first|exact (Kd.R_reads' HO185.out).2.2|(with_reducible refine Kd.C_alloc ?_ _)|(with_reducible refine Kd.C_drewN ?_ _)|(with_reducible refine Kd.C_drew ?_)))
   (case side4=>exact (Kd.R_reads' HO185.out).2.1)
   rintro e w' ⟨rfl,⟨nd,rfl⟩⟩
   refine ⟨_,rfl,?_⟩
   refine hK.out _ _ ⟨(blk_cell BK181.out 0).trans rfl,(blk_cell BK181.out 1).trans rfl⟩ (fun hHeld=>?_)
   clear hK K
   refine norm_ (a':=?_) ?_ ?_
   rotate_left
   · show Act.put _ (some 10) _=_
     simp only [Act.put,List.setIfInBounds_toArray,List.set_cons_zero,List.set_cons_succ,i64_w,i32_w]
     rfl
   refine pure_ (i:=5) (N:=some 11) (v:=?_) (a':=?_) #[true,true,true,true,true,true] rfl rfl (by kernel_rfl) (fun _ _ _ h=>h) (Or.inl ⟨by rfl,?_⟩) ?_ ?_
   rotate_left
   · intro w'
     go_simp
     with_reducible rfl
   rotate_left
   · simp only [Act.put,List.setIfInBounds_toArray,List.set_cons_zero,List.set_cons_succ,i64_w,i32_w]
     rfl
   refine done_ (by kernel_rfl) ?_
   try go_wp2
   go_ret2
   exact ⟨by first|rfl|(simp [errW_none,errW_some]<;>rfl)|(simp [*,errW_none,errW_some]<;>rfl),by repeat (with_reducible first|exact HB.out|apply below_alloc|apply pw_below_drewN|apply below_drew1|refine below_set ?_ GE181.out)⟩
 · rw [if_neg c4] at H
   have c4b0:decide (0<t186)=false:=decide_eq_false c4
   clear c4
   have H':=Aside0.mk H
   clear H
   go_enter Try.func28,Try.ntmps28
   try go_wp2_with (first|((with_reducible refine gate_dst (N:=1) rfl ?_);refine box_event ?hg (N:=1) ?hd (cs:=#[.bool a0_0,.slice A0_1 l0_1.length c0_1]) (t:=73) ?hr ?_;(case hd=>rfl);(case hg=>rfl);(case hr=>first|(go_simp;done)|(go_simp;rfl));intro gb181 hg w9 hbox hb;have n0_:=Aside0.mk (below_step (by repeat (with_reducible first|exact HB.out|apply below_alloc|apply pw_below_drewN|apply below_drew1)) hb);have n1_:=Aside0.mk (hbox);have n2_:=Aside0.mk ((by rw [hg];exact (below_size (by repeat (with_reducible first|exact HB.out|apply below_alloc|apply pw_below_drewN|apply below_drew1))):w.heap.size≤gb181));have n3_:=Aside0.mk ((by rw [hg];exact (below_size (by repeat (with_reducible first|exact HB.out|apply below_alloc|apply pw_below_drewN|apply below_drew1))):w.heap.size≤gb181));clear HB;have HB:=n0_;have BK181:=n1_;have GW181:=n2_;have GE181:=n3_;clear n0_ n1_ n2_ n3_;clear hb hbox hg))
   have n0_:=Aside0.mk (blk_drew BK181.out)
   have n1_:=Aside0.mk (below_drew1 HB.out)
   clear BK181
   clear HB
   have BK181:=n0_
   have HB:=n1_
   clear n0_ n1_
   refine start_ (n:=6) (S:=fun w'=>w'.cell? ⟨gb181,0,none⟩=some (.bool a0_0)∧w'.cell? ⟨gb181,1,none⟩=some (.slice A0_1 l0_1.length c0_1)) (ds:=[]) #[false,false,false,false,false,false] (by kernel_rfl) rfl rfl ⟨(blk_cell BK181.out 0).trans rfl,(blk_cell BK181.out 1).trans rfl⟩ (fun hHeld=>?_)
   generalize w9.drew=w10 at BK181 HB hHeld ⊢
   refine pure_ (i:=0) (N:=some 6) (v:=?_) (a':=?_) #[true,false,false,false,false,false] rfl rfl (by kernel_rfl) (fun _ _ _ h=>h) (Or.inl ⟨by rfl,?_⟩) ?_ ?_
   rotate_left
   · intro w'
     go_simp
     with_reducible rfl
   rotate_left
   · simp only [Act.put,List.setIfInBounds_toArray,List.set_cons_zero,List.set_cons_succ,i64_w,i32_w]
     rfl
   refine take_ (i:=1) (N:=some 7) (v:=?_) (a':=?_) #[true,true,false,false,false,false] rfl rfl (by kernel_rfl) (fun _ _ _ h=>h) (Or.inl ⟨by rfl,?_⟩) hHeld ?_ ?_
   rotate_left
   · rintro w' ⟨s0,s1⟩
     go_simp
     with_reducible rfl
   rotate_left
   · simp only [Act.put,List.setIfInBounds_toArray,List.set_cons_zero,List.set_cons_succ,i64_w,i32_w]
     rfl
   refine one_ (i:=2) (N:=some 8) #[true,true,true,false,false,false] rfl rfl (by kernel_rfl) (by decide) (fun K hK=>?_)
   refine goes_ Try.func27 (by kernel_rfl) rfl #[.int .i64 4611686018427387904] (by rfl) rfl rfl (by (try simp only [List.map_toArray,List.map_cons,List.map_nil]);first|done|rfl|(simp only [List.length_drop,List.length_take];rfl)) ?_
   with_reducible refine (octroiref01_Of.calls k 4611686018427387904 t182 t183 _ A2.out).mono ?_
   rintro e w11 ⟨v184,rfl,ho0,hb⟩
   refine ⟨_,rfl,?_⟩
   have n0_:=Aside0.mk (Kd.R_lower ho0 (below_size (by repeat (with_reducible first|exact HB.out|apply below_alloc|apply pw_below_drewN|apply below_drew1|refine below_set ?_ GE181.out))))
   have n1_:=Aside0.mk (blk_below (g:=gb181) (o:=.cells #[.bool a0_0,.slice A0_1 l0_1.length c0_1] 73 (0,0)) (by (with_reducible repeat (first|refine blk_drewN ?_ _|refine blk_drew ?_|refine blk_alloc ?_ _));exact BK181.out) hb)
   have n2_:=Aside0.mk (below_step (by repeat (with_reducible first|exact HB.out|apply below_alloc|apply pw_below_drewN|apply below_drew1|refine below_set ?_ GE181.out)) hb)
   clear BK181
   clear HB
   have HO185:=n0_
   have BK181:=n1_
   have HB:=n2_
   clear n0_ n1_ n2_
   (try clear hb)
   (try clear hb2)
   (try clear hk)
   (try clear hi)
   (try clear ho0)
   obtain ⟨Ao12,co12,eo12⟩:=Kd.R_slice HO185.out
   (first|subst eo12|(injection eo12 with f1_ f2_ f3_;have f4_:=f1_.symm;have f5_:=f3_.symm;clear f1_ f2_ f3_;subst f4_;subst f5_))
   refine hK.out _ _ ⟨(blk_cell BK181.out 0).trans rfl,(blk_cell BK181.out 1).trans rfl⟩ (fun hHeld=>?_)
   clear hK K
   refine norm_ (a':=?_) ?_ ?_
   rotate_left
   · show Act.put _ (some 8) _=_
     simp only [Act.put,List.setIfInBounds_toArray,List.set_cons_zero,List.set_cons_succ,i64_w,i32_w]
     rfl
   refine pure_ (i:=3) (N:=some 9) (v:=?_) (a':=?_) #[true,true,true,true,false,false] rfl rfl (by kernel_rfl) (fun _ _ _ h=>h) (Or.inl ⟨by rfl,?_⟩) ?_ ?_
   rotate_left
   · intro w'
     go_simp
     with_reducible rfl
   rotate_left
   · simp only [Act.put,List.setIfInBounds_toArray,List.set_cons_zero,List.set_cons_succ,i64_w,i32_w]
     rfl
   refine one_ (i:=4) (N:=some 10) #[true,true,true,true,true,false] rfl rfl (by kernel_rfl) (by decide) (fun K hK=>?_)
   refine goes_ Try.func47 (by kernel_rfl) rfl #[.slice A0_1 l0_1.length c0_1,.slice Ao12 t183.length co12] (by rfl) rfl rfl (by (try simp only [List.map_toArray,List.map_cons,List.map_nil]);first|done|rfl|(simp only [List.length_drop,List.length_take];rfl)) ?_
   with_reducible refine (octroiref01_cmp.calls k _ _ l0_1 _ _ t183 t186 _ ?side1 ?side2 ?side3 ?side4 A3.out).mono ?_
   (case side1=>repeat (first|exact (Kd.C_below HR0_1.out HB.out)|(with_reducible refine Kd.C_alloc ?_ _)|(with_reducible refine Kd.C_drewN ?_ _)|(with_reducible refine Kd.C_drew ?_)))
   (case side2=>exact HC0_1.out)
   (case side3=>repeat (first|exact (Kd.R_reads' HO185.out).2.2|(with_reducible refine Kd.C_alloc ?_ _)|(with_reducible refine Kd.C_drewN ?_ _)|(with_reducible refine Kd.C_drew ?_)))
   (case side4=>exact (Kd.R_reads' HO185.out).2.1)
   rintro e w' ⟨rfl,⟨nd,rfl⟩⟩
   refine ⟨_,rfl,?_⟩
   refine hK.out _ _ ⟨(blk_cell BK181.out 0).trans rfl,(blk_cell BK181.out 1).trans rfl⟩ (fun hHeld=>?_)
   clear hK K
   refine norm_ (a':=?_) ?_ ?_
   rotate_left
   · show Act.put _ (some 10) _=_
     simp only [Act.put,List.setIfInBounds_toArray,List.set_cons_zero,List.set_cons_succ,i64_w,i32_w]
     rfl
   refine pure_ (i:=5) (N:=some 11) (v:=?_) (a':=?_) #[true,true,true,true,true,true] rfl rfl (by kernel_rfl) (fun _ _ _ h=>h) (Or.inl ⟨by rfl,?_⟩) ?_ ?_
   rotate_left
   · intro w'
     go_simp
     with_reducible rfl
   rotate_left
   · simp only [Act.put,List.setIfInBounds_toArray,List.set_cons_zero,List.set_cons_succ,i64_w,i32_w]
     rfl
   refine done_ (by kernel_rfl) ?_
   have hcz13_0:w11.cell? ⟨gb181,0,none⟩=some (.bool a0_0):=(blk_cell BK181.out 0).trans rfl
   have hcz13_1:w11.cell? ⟨gb181,1,none⟩=some (.slice A0_1 l0_1.length c0_1):=(blk_cell BK181.out 1).trans rfl
   have hfz13_0:=blk_frozen BK181.out 0
   have hfz13_1:=blk_frozen BK181.out 1
   try go_wp2
   go_loopg [4,5] k (fun kq v4 v5 w'=>∃ (x4_1:Int) (x5_1:Int),v4 = .int .i64 x4_1∧v5 = .int .i64 x5_1∧Aside0 (octroiref01_Int.l0 kq x4_1 x5_1 a0_0 l0_1=some (r1,r2))∧Aside0 (kq≤k)∧Aside0 (w'.heap[gb181]? = some (.cells #[.bool a0_0,(.slice A0_1 l0_1.length c0_1)] 73 (0,0)))∧Aside0 (Below w.heap.size w w'))
   case atStart=>exact ⟨(0),(wrap64 ((l0_1.length:Int) - 1)),(by first|rfl|(simp;done)|(simp [*];done)),(by first|rfl|(simp;done)|(simp [*];done)),H',⟨Nat.le_refl _⟩,⟨by (with_reducible repeat (first|refine blk_drewN ?_ _|refine blk_drew ?_|refine blk_alloc ?_ _));exact BK181.out⟩,⟨by repeat (with_reducible first|exact HB.out|apply below_alloc|apply pw_below_drewN|apply below_drew1|refine below_set ?_ GE181.out)⟩⟩
   case round =>
    clear H'
    try clear c2
    try clear p2
    try clear c4
    try clear c4b0
    try clear p6
    try clear hcz13_0
    try clear hcz13_1
    try clear hfz13_0
    try clear hfz13_1
    obtain ⟨x4_1,x5_1,rfl,rfl,HA,HK1,BK181,HB⟩:=hrel
    cases gk with
    | zero=>exact absurd HA.out (by simp [octroiref01_Int.l0])
    | succ k1 =>
     have H:=HA.out
     clear HA
     simp only [octroiref01_Int.l0] at H
     by_cases c14:x5_1≥0
     · rw [if_pos c14] at H
       have c14b0:decide (0≤x5_1)=true:=decide_eq_true c14
       clear c14
       by_cases c15:0≤x5_1
       · rw [if_pos c15] at H
         have c15b0:decide (0≤x5_1)=true:=decide_eq_true c15
         clear c15
         by_cases c16:x5_1<(l0_1.length:Int)
         · rw [if_pos c16] at H
           have c16b0:decide (x5_1<(l0_1.length:Int))=true:=decide_eq_true c16
           clear c16
           have H':=Aside0.mk H
           clear H
           have hcz17_0:wr.cell? ⟨gb181,0,none⟩=some (.bool a0_0):=(blk_cell BK181.out 0).trans rfl
           have hcz17_1:wr.cell? ⟨gb181,1,none⟩=some (.slice A0_1 l0_1.length c0_1):=(blk_cell BK181.out 1).trans rfl
           have hfz17_0:=blk_frozen BK181.out 0
           have hfz17_1:=blk_frozen BK181.out 1
           have p187:0≤(x5_1:Int):=of_decide_eq_true (by assumption)
           have q187:x5_1<(l0_1.length:Int):=of_decide_eq_true (by assumption)
           obtain ⟨ad187,e187,hx187_0⟩:=Kd.at_int HR0_1.out x5_1 p187 q187
           cases e187
           replace hx187_0:=(HB.out.cell (World.block_lt_of_cell? w _ hx187_0)).trans hx187_0
           replace p187:=eq_true p187
           replace q187:=eq_true q187
           go_wp2
           go_roundg k1
           case measure=>have:=HK1.out;omega
           case rel=>exact ⟨(wrap64 ((wrap64 (x4_1 * 2147483648))+(rd l0_1 x5_1))),(wrap64 (x5_1 - 1)),(by first|rfl|(simp;done)|(simp [*];done)),(by first|rfl|(simp;done)|(simp [*];done)),H',⟨by have:=HK1.out;omega⟩,⟨by (with_reducible repeat (first|refine blk_drewN ?_ _|refine blk_drew ?_|refine blk_alloc ?_ _));exact BK181.out⟩,⟨by repeat (with_reducible first|exact HB.out|apply below_alloc|apply pw_below_drewN|apply below_drew1|refine below_set ?_ GE181.out)⟩⟩
         · rw [if_neg c16] at H
           exact absurd H (by simp)
       · rw [if_neg c15] at H
         exact absurd H (by simp)
     · rw [if_neg c14] at H
       have c14b0:decide (0≤x5_1)=false:=decide_eq_false c14
       clear c14
       by_cases c18:a0_0=true
       · subst c18
         have H1:(some (wrap64 (-x4_1),true))=some (r1,r2):=by rw [if_pos rfl] at H;exact H
         clear H
         have H:=H1
         clear H1
         simp only [Option.some.injEq,Prod.mk.injEq] at H
         obtain ⟨rfl,rfl⟩:=H
         have hcz19_0:wr.cell? ⟨gb181,0,none⟩=some (.bool true):=(blk_cell BK181.out 0).trans rfl
         have hcz19_1:wr.cell? ⟨gb181,1,none⟩=some (.slice A0_1 l0_1.length c0_1):=(blk_cell BK181.out 1).trans rfl
         have hfz19_0:=blk_frozen BK181.out 0
         have hfz19_1:=blk_frozen BK181.out 1
         go_wp2
         go_ret2
         exact ⟨by first|rfl|(simp [errW_none,errW_some]<;>rfl)|(simp [*,errW_none,errW_some]<;>rfl),by repeat (with_reducible first|exact HB.out|apply below_alloc|apply pw_below_drewN|apply below_drew1|refine below_set ?_ GE181.out)⟩
       · replace c18:=Bool.eq_false_iff.mpr c18
         subst c18
         have H1:(some (x4_1,true))=some (r1,r2):=by rw [if_neg (show ¬ (false=true) by decide)] at H;exact H
         clear H
         have H:=H1
         clear H1
         simp only [Option.some.injEq,Prod.mk.injEq] at H
         obtain ⟨rfl,rfl⟩:=H
         have hcz20_0:wr.cell? ⟨gb181,0,none⟩=some (.bool false):=(blk_cell BK181.out 0).trans rfl
         have hcz20_1:wr.cell? ⟨gb181,1,none⟩=some (.slice A0_1 l0_1.length c0_1):=(blk_cell BK181.out 1).trans rfl
         have hfz20_0:=blk_frozen BK181.out 0
         have hfz20_1:=blk_frozen BK181.out 1
         go_wp2
         go_ret2
         exact ⟨by first|rfl|(simp [errW_none,errW_some]<;>rfl)|(simp [*,errW_none,errW_some]<;>rfl),by repeat (with_reducible first|exact HB.out|apply below_alloc|apply pw_below_drewN|apply below_drew1|refine below_set ?_ GE181.out)⟩
def octroiref01_Sum.l0:Nat→List Int→Int→Bool→List Int→Option (Int × Int)
 | 0,_,_,_,_=>none
 | k+1,x0,x5,x189000,x189001=>if x5<(x0.length:Int) then (if 0≤x5 then ((octroiref01_May.f (rd x0 x5)).bind fun t192=>(if t192=true then ((octroiref01_Of.f k (rd x0 x5)).bind fun bt194=>((octroiref01_Add.f k x189000 x189001 bt194.1 bt194.2).bind fun bt198=>(octroiref01_Sum.l0 k x0 (wrap64 (x5+1)) bt198.1 bt198.2))) else (some (0,2)))) else (none)) else ((octroiref01_Int.f k x189000 x189001).bind fun bt189=>(if bt189.2=true then (some (bt189.1,0)) else (some (0,3))))
def octroiref01_Sum.f (k:Nat) (l0:List Int):Option (Int × Int):=octroiref01_Sum.l0 k l0 0 false ([]:List Int)
def octroiref01_Sum.T7:Bool × List (List Nat × List Nat):=(true,[([],[]),([],[]),([],[]),([1,2],[1,2]),([3],[3]),([4],[4]),([0,5,5],[0,5]),([6,6,0,1,2,3,4,5,6],[6])])
def octroiref01_Sum.B7:List Nat:=[0,0,0,6,14,30,63,127]
theorem octroiref01_Sum.tab7:rtab .any (opsOf Try.f13 7)=octroiref01_Sum.T7:=by kernel_rfl
theorem octroiref01_Sum.bits7:waitsOk octroiref01_Sum.T7.2 octroiref01_Sum.B7=true:=by kernel_rfl
set_option maxHeartbeats 8000000 in
set_option maxRecDepth 100000 in
theorem octroiref01_Sum.calls (k:Nat) (A0:Option Addr) (c0:Nat) (l0:List Int) (r1:Int) (r2:Int) (w:World) (hr0:Kd.C (Kd.int .i64) w A0 l0.length l0) (hc0:l0.length≤c0) (h:octroiref01_Sum.f k l0=some (r1,r2)) :
 Calls Try.prog 13 #[.slice A0 l0.length c0] w fun e w'=>e = .returned (.tuple #[.int .i64 r1,.int .i64 r2])∧Below w.heap.size w w':=by
 have hu73:=Try.underlying73
 have HR0:=Aside0.mk hr0
 have HC0:=Aside0.mk hc0
 clear hr0 hc0
 have HB:=Aside0.mk (Below.refl w.heap.size w)
 have H:(octroiref01_Sum.l0 k l0 0 false ([]:List Int))=some (r1,r2):=h
 clear h
 have H':=Aside0.mk H
 clear H
 go_enter Try.func13,Try.ntmps13
 go_wp2_with (first|((with_reducible refine gate_dst (N:=4) rfl ?_);refine box_event ?hg (N:=4) ?hd (cs:=#[.bool false,.slice none 0 0]) (t:=73) ?hr ?_;(case hd=>rfl);(case hg=>rfl);(case hr=>first|(go_simp;done)|(go_simp;rfl));intro gb188 hg w2 hbox hb;have n0_:=Aside0.mk (below_step (by repeat (with_reducible first|exact HB.out|apply below_alloc|apply pw_below_drewN|apply below_drew1)) hb);have n1_:=Aside0.mk (hbox);have n2_:=Aside0.mk ((by rw [hg];exact (below_size (by repeat (with_reducible first|exact HB.out|apply below_alloc|apply pw_below_drewN|apply below_drew1))):w.heap.size≤gb188));have n3_:=Aside0.mk ((by rw [hg];exact (below_size (by repeat (with_reducible first|exact HB.out|apply below_alloc|apply pw_below_drewN|apply below_drew1))):w.heap.size≤gb188));clear HB;have HB:=n0_;have BK188:=n1_;have GW188:=n2_;have GE188:=n3_;clear n0_ n1_ n2_ n3_;clear hb hbox hg;have hcz3_0:w2.cell? ⟨gb188,0,none⟩=some (.bool false):=(blk_cell BK188.out 0).trans rfl;have hcz3_1:w2.cell? ⟨gb188,1,none⟩=some (.slice none 0 0):=(blk_cell BK188.out 1).trans rfl;have hfz3_0:=blk_frozen BK188.out 0;have hfz3_1:=blk_frozen BK188.out 1))
 go_loopg [5] k (fun kq v5 w'=>∃ (x5_1:Int) (x189000_1:Bool) (x189001_1:List Int) (u189001:Value),v5 = .int .i64 x5_1∧Aside0 (octroiref01_Sum.l0 kq l0 x5_1 x189000_1 x189001_1=some (r1,r2))∧Aside0 (kq≤k)∧Aside0 (Kd.R (Kd.int .i64) 3 w' w.heap.size (fun _=>True) u189001 x189001_1)∧Aside0 (w'.heap[gb188]? = some (.cells #[.bool x189000_1,u189001] 73 (0,0)))∧Aside0 (Below w.heap.size w w'))
 case atStart=>exact ⟨(0),(false),(([]:List Int)),(.slice none 0 0),(by first|rfl|(simp;done)|(simp [*];done)),H',⟨Nat.le_refl _⟩,⟨by first|exact Kd.R_nil _ _ _ _ _|exact Kd.N_nil _ _ _ _ _|exact Kd.V_nil _ _ _ _ _|exact Kd.Q_nil _ _ _ _ _|exact Kd.S_nil _ _ _ _ _⟩,⟨by (with_reducible repeat (first|refine blk_drewN ?_ _|refine blk_drew ?_|refine blk_alloc ?_ _));refine blk_put (cs:=#[.bool false,.slice none 0 0]) ?_ 1 _ rfl;(with_reducible repeat (first|refine blk_drewN ?_ _|refine blk_drew ?_|refine blk_alloc ?_ _));refine blk_put (cs:=#[.bool false,.slice none 0 0]) ?_ 0 _ rfl;(with_reducible repeat (first|refine blk_drewN ?_ _|refine blk_drew ?_|refine blk_alloc ?_ _));exact BK188.out⟩,⟨by repeat (with_reducible first|exact HB.out|apply below_alloc|apply pw_below_drewN|apply below_drew1|refine below_set ?_ GE188.out)⟩⟩
 case round =>
  clear H'
  try clear c1
  try clear p2
  try clear hcz3_0
  try clear hcz3_1
  try clear hfz3_0
  try clear hfz3_1
  obtain ⟨x5_1,x189000_1,x189001_1,u189001,rfl,HA,HK1,HO_189001,BK188,HB⟩:=hrel
  cases gk with
  | zero=>exact absurd HA.out (by simp [octroiref01_Sum.l0])
  | succ k1 =>
   have H:=HA.out
   clear HA
   simp only [octroiref01_Sum.l0] at H
   by_cases c4:x5_1<(l0.length:Int)
   · rw [if_pos c4] at H
     have c4b0:decide (x5_1<(l0.length:Int))=true:=decide_eq_true c4
     clear c4
     by_cases c5:0≤x5_1
     · rw [if_pos c5] at H
       have c5b0:decide (0≤x5_1)=true:=decide_eq_true c5
       clear c5
       replace H:=Option.bind_eq_some_iff.mp H
       obtain ⟨t192,A60,H⟩:=H
       replace H:(if t192=true then ((octroiref01_Of.f k1 (rd l0 x5_1)).bind fun bt194=>((octroiref01_Add.f k1 x189000_1 x189001_1 bt194.1 bt194.2).bind fun bt198=>(octroiref01_Sum.l0 k1 l0 (wrap64 (x5_1+1)) bt198.1 bt198.2))) else (some (0,2)))=some (r1,r2):=H
       have A6:=Aside0.mk A60
       clear A60
       by_cases c7:t192=true
       · subst c7
         have H1:((octroiref01_Of.f k1 (rd l0 x5_1)).bind fun bt194=>((octroiref01_Add.f k1 x189000_1 x189001_1 bt194.1 bt194.2).bind fun bt198=>(octroiref01_Sum.l0 k1 l0 (wrap64 (x5_1+1)) bt198.1 bt198.2)))=some (r1,r2):=by rw [if_pos rfl] at H;exact H
         clear H
         have H:=H1
         clear H1
         replace H:=Option.bind_eq_some_iff.mp H
         obtain ⟨⟨t194,t195⟩,A80,H⟩:=H
         replace H:((octroiref01_Add.f k1 x189000_1 x189001_1 t194 t195).bind fun bt198=>(octroiref01_Sum.l0 k1 l0 (wrap64 (x5_1+1)) bt198.1 bt198.2))=some (r1,r2):=H
         have A8:=Aside0.mk A80
         clear A80
         replace H:=Option.bind_eq_some_iff.mp H
         obtain ⟨⟨t198,t199⟩,A90,H⟩:=H
         replace H:(octroiref01_Sum.l0 k1 l0 (wrap64 (x5_1+1)) t198 t199)=some (r1,r2):=H
         have A9:=Aside0.mk A90
         clear A90
         have H':=Aside0.mk H
         clear H
         have p191:0≤(x5_1:Int):=of_decide_eq_true (by assumption)
         have q191:x5_1<(l0.length:Int):=of_decide_eq_true (by assumption)
         obtain ⟨ad191,e191,hx191_0⟩:=Kd.at_int HR0.out x5_1 p191 q191
         cases e191
         replace hx191_0:=(HB.out.cell (World.block_lt_of_cell? w _ hx191_0)).trans hx191_0
         replace p191:=eq_true p191
         replace q191:=eq_true q191
         try go_wp2_with (first|((with_reducible refine gate_callee (f:=18) rfl ?_);refine goesL_ (some 19) rfl rfl Try.func18 (by kernel_rfl) rfl #[.int .i64 (rd l0 x5_1)] rfl (by (try simp only [List.map_toArray,List.map_cons,List.map_nil]);first|done|rfl|(simp only [List.length_drop,List.length_take];rfl)) ?_;(with_reducible refine (octroiref01_May.calls (rd l0 x5_1) true _ A6.out).mono ?_);rintro e w' ⟨rfl,⟨nd,rfl⟩⟩;refine ⟨_,rfl,?_⟩;(try (rw [drewN_self wr];generalize hq_:World.drewN wr _=wr;have n0_:Aside0 (Kd.R (Kd.int .i64) 3 wr w.heap.size (fun _=>True) u189001 x189001_1):=⟨by rw [← hq_];exact (by (with_reducible repeat (first|apply Kd.R_alloc|apply Kd.R_drewN|apply Kd.R_drew));exact HO_189001.out)⟩;have n1_:Aside0 (wr.heap[gb188]? = some (.cells #[.bool x189000_1,u189001] 73 (0,0))):=⟨by rw [← hq_];exact (by (with_reducible repeat (first|refine blk_drewN ?_ _|refine blk_drew ?_|refine blk_alloc ?_ _));exact BK188.out)⟩;have n2_:Aside0 (Below w.heap.size w wr):=⟨by rw [← hq_];exact (by repeat (with_reducible first|exact HB.out|apply below_alloc|apply pw_below_drewN|apply below_drew1|refine below_set ?_ GE188.out))⟩;clear HO_189001 BK188 HB hq_;have HO_189001:=n0_;have BK188:=n1_;have HB:=n2_;clear n0_ n1_ n2_))))
         have n0_:=Aside0.mk (Kd.R_drew HO_189001.out)
         have n1_:=Aside0.mk (blk_drew BK188.out)
         have n2_:=Aside0.mk (below_drew1 HB.out)
         clear HO_189001
         clear BK188
         clear HB
         have HO_189001:=n0_
         have BK188:=n1_
         have HB:=n2_
         clear n0_ n1_ n2_
         have p193:0≤(x5_1:Int):=of_decide_eq_true (by assumption)
         have q193:x5_1<(l0.length:Int):=of_decide_eq_true (by assumption)
         obtain ⟨ad193,e193,hx193_0⟩:=Kd.at_int HR0.out x5_1 p193 q193
         have hw193_0:=hx193_0
         obtain rfl:ad191=ad193:=(by injection e193)
         replace hx193_0:=(HB.out.cell (World.block_lt_of_cell? w _ hx193_0)).trans hx193_0
         replace p193:=eq_true p193
         replace q193:=eq_true q193
         refine start_ (n:=8) (S:=fun w'=>w'.cell? ⟨gb188,0,none⟩=some (.bool x189000_1)∧w'.cell? ⟨gb188,1,none⟩=some (u189001)∧w'.cell? (ad191.add (x5_1).toNat)=some (.int .i64 (rd l0 x5_1))) (ds:=[7]) #[false,false,false,false,false,false,false,false] (by kernel_rfl) rfl rfl ⟨(blk_cell BK188.out 0).trans rfl,(blk_cell BK188.out 1).trans rfl,((HB.out.cell (World.block_lt_of_cell? w _ hw193_0)).trans hw193_0)⟩ (fun hHeld=>?_);refine with_tabW octroiref01_Sum.tab7 octroiref01_Sum.bits7 (fun HT_ HW_=>?_)
         generalize wr.drew=w10 at HO_189001 BK188 HB hx193_0 hHeld ⊢
         refine pure_ (i:=1) (N:=some 22) (v:=?_) (a':=?_) #[false,true,false,false,false,false,false,false] rfl rfl (any_of HT_.out (by kernel_rfl)) (fun _ _ _ h=>h) (Or.inl ⟨by rfl,?_⟩) ?_ ?_
         rotate_left
         · intro w'
           go_simp
           with_reducible rfl
         rotate_left
         · simp only [Act.put,List.setIfInBounds_toArray,List.set_cons_zero,List.set_cons_succ,i64_w,i32_w]
           rfl
         refine pure_ (i:=2) (N:=some 23) (v:=?_) (a':=?_) #[false,true,true,false,false,false,false,false] rfl rfl (any_of HT_.out (by kernel_rfl)) (fun _ _ _ h=>h) (Or.inl ⟨by rfl,?_⟩) ?_ ?_
         rotate_left
         · intro w'
           go_simp
           with_reducible rfl
         rotate_left
         · simp only [Act.put,List.setIfInBounds_toArray,List.set_cons_zero,List.set_cons_succ,i64_w,i32_w]
           rfl
         refine pure_ (i:=3) (N:=some 24) (v:=?_) (a':=?_) #[false,true,true,true,false,false,false,false] rfl rfl (any_of HT_.out (by kernel_rfl)) (fun _ _ _ h=>h) (Or.inl ⟨by rfl,?_⟩) ?_ ?_
         rotate_left
         · intro w'
           go_simp
           with_reducible rfl
         rotate_left
         · simp only [Act.put,List.setIfInBounds_toArray,List.set_cons_zero,List.set_cons_succ,i64_w,i32_w]
           rfl
         refine take_ (i:=0) (N:=some 21) (v:=?_) (a':=?_) #[true,true,true,true,false,false,false,false] rfl rfl (take_ofW HT_.out HW_.out (by kernel_rfl)) (fun _ _ _ h=>h) (Or.inl ⟨by rfl,?_⟩) hHeld ?_ ?_
         rotate_left
         · rintro w' ⟨s0,s1,s2⟩
           go_simp
           with_reducible rfl
         rotate_left
         · simp only [Act.put,List.setIfInBounds_toArray,List.set_cons_zero,List.set_cons_succ,i64_w,i32_w]
           rfl
         refine take_ (i:=4) (N:=some 25) (v:=?_) (a':=?_) #[true,true,true,true,true,false,false,false] rfl rfl (take_ofW HT_.out HW_.out (by kernel_rfl)) (fun _ _ _ h=>h) (Or.inl ⟨by rfl,?_⟩) hHeld ?_ ?_
         rotate_left
         · rintro w' ⟨s0,s1,s2⟩
           go_simp
           with_reducible rfl
         rotate_left
         · simp only [Act.put,List.setIfInBounds_toArray,List.set_cons_zero,List.set_cons_succ,i64_w,i32_w]
           rfl
         refine one_ (i:=5) (N:=some 26) #[true,true,true,true,true,true,false,false] rfl rfl (one_of HT_.out (by kernel_rfl)) (by decide) (fun K hK=>?_)
         refine goes_ Try.func27 (by kernel_rfl) rfl #[.int .i64 (rd l0 x5_1)] (by rfl) rfl rfl (by (try simp only [List.map_toArray,List.map_cons,List.map_nil]);first|done|rfl|(simp only [List.length_drop,List.length_take];rfl)) ?_
         with_reducible refine (octroiref01_Of.calls k1 (rd l0 x5_1) t194 t195 _ A8.out).mono ?_
         rintro e w11 ⟨v196,rfl,ho0,hb⟩
         refine ⟨_,rfl,?_⟩
         have n0_:=Aside0.mk (Kd.R_elder' (by (with_reducible repeat (first|apply Kd.R_alloc|apply Kd.R_drewN|apply Kd.R_drew));exact HO_189001.out) (Kd.R_base ho0) hb)
         have n1_:=Aside0.mk (Kd.R_lower (Kd.R_new' ho0 (Kd.R_lt (by (with_reducible repeat (first|apply Kd.R_alloc|apply Kd.R_drewN|apply Kd.R_drew));exact HO_189001.out))) (below_size (by repeat (with_reducible first|exact HB.out|apply below_alloc|apply pw_below_drewN|apply below_drew1|refine below_set ?_ GE188.out))))
         have n2_:=Aside0.mk (blk_below (g:=gb188) (o:=.cells #[.bool x189000_1,u189001] 73 (0,0)) (by (with_reducible repeat (first|refine blk_drewN ?_ _|refine blk_drew ?_|refine blk_alloc ?_ _));exact BK188.out) hb)
         have n3_:=Aside0.mk (below_step (by repeat (with_reducible first|exact HB.out|apply below_alloc|apply pw_below_drewN|apply below_drew1|refine below_set ?_ GE188.out)) hb)
         clear HO_189001
         clear BK188
         clear HB
         have HO_189001:=n0_
         have HO197:=n1_
         have BK188:=n2_
         have HB:=n3_
         clear n0_ n1_ n2_ n3_
         (try clear hb)
         (try clear hb2)
         (try clear hk)
         (try clear hi)
         (try clear ho0)
         obtain ⟨Ao12,co12,eo12⟩:=Kd.R_slice HO_189001.out
         (first|subst eo12|(injection eo12 with f1_ f2_ f3_;have f4_:=f1_.symm;have f5_:=f3_.symm;clear f1_ f2_ f3_;subst f4_;subst f5_))
         obtain ⟨Ao13,co13,eo13⟩:=Kd.R_slice HO197.out
         (first|subst eo13|(injection eo13 with f1_ f2_ f3_;have f4_:=f1_.symm;have f5_:=f3_.symm;clear f1_ f2_ f3_;subst f4_;subst f5_))
         refine hK.out _ _ ⟨(blk_cell BK188.out 0).trans rfl,(blk_cell BK188.out 1).trans rfl,((HB.out.cell (World.block_lt_of_cell? w _ hw193_0)).trans hw193_0)⟩ (fun hHeld=>?_)
         clear hK K
         refine norm_ (a':=?_) ?_ ?_
         rotate_left
         · show Act.put _ (some 26) _=_
           simp only [Act.put,List.setIfInBounds_toArray,List.set_cons_zero,List.set_cons_succ,i64_w,i32_w]
           rfl
         refine one_ (i:=6) (N:=some 27) #[true,true,true,true,true,true,true,false] rfl rfl (one_of HT_.out (by kernel_rfl)) (by decide) (fun K hK=>?_)
         refine goes_ Try.func26 (by kernel_rfl) rfl #[.agg #[.bool x189000_1,.slice Ao12 x189001_1.length co12],.agg #[.bool t194,.slice Ao13 t195.length co13]] (by rfl) rfl rfl (by (try simp only [List.map_toArray,List.map_cons,List.map_nil]);first|done|rfl|(simp only [List.length_drop,List.length_take];rfl)) ?_
         with_reducible refine (octroiref01_Add.calls k1 x189000_1 _ _ x189001_1 t194 _ _ t195 t198 t199 _ ?side1 ?side2 ?side3 ?side4 A9.out).mono ?_
         (case side1=>repeat (first|exact (Kd.R_reads' HO_189001.out).2.2|(with_reducible refine Kd.C_alloc ?_ _)|(with_reducible refine Kd.C_drewN ?_ _)|(with_reducible refine Kd.C_drew ?_)))
         (case side2=>exact (Kd.R_reads' HO_189001.out).2.1)
         (case side3=>repeat (first|exact (Kd.R_reads' HO197.out).2.2|(with_reducible refine Kd.C_alloc ?_ _)|(with_reducible refine Kd.C_drewN ?_ _)|(with_reducible refine Kd.C_drew ?_)))
         (case side4=>exact (Kd.R_reads' HO197.out).2.1)
         rintro e w14 ⟨v200,rfl,ho0,hb⟩
         refine ⟨_,rfl,?_⟩
         have n0_:=Aside0.mk (Kd.R_elder' (by (with_reducible repeat (first|apply Kd.R_alloc|apply Kd.R_drewN|apply Kd.R_drew));exact HO_189001.out) (Kd.R_base ho0) hb)
         have n1_:=Aside0.mk (Kd.R_elder' (by (with_reducible repeat (first|apply Kd.R_alloc|apply Kd.R_drewN|apply Kd.R_drew));exact HO197.out) (Kd.R_base ho0) hb)
         have n2_:=Aside0.mk (Kd.R_lower (Kd.R_new' (Kd.R_new' ho0 (Kd.R_lt (by (with_reducible repeat (first|apply Kd.R_alloc|apply Kd.R_drewN|apply Kd.R_drew));exact HO_189001.out))) (Kd.R_lt (by (with_reducible repeat (first|apply Kd.R_alloc|apply Kd.R_drewN|apply Kd.R_drew));exact HO197.out))) (below_size (by repeat (with_reducible first|exact HB.out|apply below_alloc|apply pw_below_drewN|apply below_drew1|refine below_set ?_ GE188.out))))
         have n3_:=Aside0.mk (blk_below (g:=gb188) (o:=.cells #[.bool x189000_1,.slice Ao12 x189001_1.length co12] 73 (0,0)) (by (with_reducible repeat (first|refine blk_drewN ?_ _|refine blk_drew ?_|refine blk_alloc ?_ _));exact BK188.out) hb)
         have n4_:=Aside0.mk (below_step (by repeat (with_reducible first|exact HB.out|apply below_alloc|apply pw_below_drewN|apply below_drew1|refine below_set ?_ GE188.out)) hb)
         clear HO_189001
         clear HO197
         clear BK188
         clear HB
         have HO_189001:=n0_
         have HO197:=n1_
         have HO201:=n2_
         have BK188:=n3_
         have HB:=n4_
         clear n0_ n1_ n2_ n3_ n4_
         (try clear hb)
         (try clear hb2)
         (try clear hk)
         (try clear hi)
         (try clear ho0)
         obtain ⟨Ao16,co16,eo16⟩:=Kd.R_slice HO201.out
         (first|subst eo16|(injection eo16 with f1_ f2_ f3_;have f4_:=f1_.symm;have f5_:=f3_.symm;clear f1_ f2_ f3_;subst f4_;subst f5_))
         refine hK.out _ _ ⟨(blk_cell BK188.out 0).trans rfl,(blk_cell BK188.out 1).trans rfl,((HB.out.cell (World.block_lt_of_cell? w _ hw193_0)).trans hw193_0)⟩ (fun hHeld=>?_)
         clear hK K
         refine norm_ (a':=?_) ?_ ?_
         rotate_left
         · show Act.put _ (some 27) _=_
           simp only [Act.put,List.setIfInBounds_toArray,List.set_cons_zero,List.set_cons_succ,i64_w,i32_w]
           rfl
         refine last_ (i:=7) (N:=none) #[true,true,true,true,true,true,true,true] rfl rfl (one_of HT_.out (by kernel_rfl)) (by decide) (fun K hK=>?_)
         have hs15:w14.cell? ⟨gb188,0,none⟩=some (.bool x189000_1):=(blk_cell BK188.out 0).trans rfl
         have hfs15:=blk_frozen BK188.out 0
         have hs17:w14.cell? ⟨gb188,1,none⟩=some (.slice Ao12 x189001_1.length co12):=(blk_cell BK188.out 1).trans rfl
         have hfs17:=blk_frozen BK188.out 1
         refine skip_ (w1:=?_) (by rfl) rfl ?_ ?_
         rotate_left
         · go_simp
           rfl
         refine hK.out _ _ ?_
         clear hK K
         refine done_ (done_of HT_.out (by kernel_rfl)) ?_
         try go_wp2
         go_roundg k1
         case measure=>have:=HK1.out;omega
         case rel=>exact ⟨(wrap64 (x5_1+1)),(t198),(t199),(.slice Ao16 t199.length co16),(by first|rfl|(simp;done)|(simp [*];done)),H',⟨by have:=HK1.out;omega⟩,⟨by (with_reducible repeat (first|apply Kd.R_alloc|apply Kd.R_drewN|apply Kd.R_drew));exact Kd.R_mono (Kd.R_far (p:=⟨gb188,1,none⟩) (Kd.R_far (p:=⟨gb188,0,none⟩) (Kd.R_types HO201.out BK188.out (by decide)) (fun _ hk=>hk.2) (.bool t198)) (fun _ hk=>hk.2) (.slice Ao16 t199.length co16)) (fun _ hk=>trivial)⟩,⟨by (with_reducible repeat (first|refine blk_drewN ?_ _|refine blk_drew ?_|refine blk_alloc ?_ _));refine blk_put (cs:=#[.bool t198,.slice Ao12 x189001_1.length co12]) ?_ 1 _ rfl;(with_reducible repeat (first|refine blk_drewN ?_ _|refine blk_drew ?_|refine blk_alloc ?_ _));refine blk_put (cs:=#[.bool x189000_1,.slice Ao12 x189001_1.length co12]) ?_ 0 _ rfl;(with_reducible repeat (first|refine blk_drewN ?_ _|refine blk_drew ?_|refine blk_alloc ?_ _));exact BK188.out⟩,⟨by repeat (with_reducible first|exact HB.out|apply below_alloc|apply pw_below_drewN|apply below_drew1|refine below_set ?_ GE188.out)⟩⟩
       · replace c7:=Bool.eq_false_iff.mpr c7
         subst c7
         have H1:(some (0,2))=some (r1,r2):=by rw [if_neg (show ¬ (false=true) by decide)] at H;exact H
         clear H
         have H:=H1
         clear H1
         simp only [Option.some.injEq,Prod.mk.injEq] at H
         obtain ⟨rfl,rfl⟩:=H
         have p191:0≤(x5_1:Int):=of_decide_eq_true (by assumption)
         have q191:x5_1<(l0.length:Int):=of_decide_eq_true (by assumption)
         obtain ⟨ad191,e191,hx191_0⟩:=Kd.at_int HR0.out x5_1 p191 q191
         cases e191
         replace hx191_0:=(HB.out.cell (World.block_lt_of_cell? w _ hx191_0)).trans hx191_0
         replace p191:=eq_true p191
         replace q191:=eq_true q191
         go_wp2_with (first|((with_reducible refine gate_callee (f:=18) rfl ?_);refine goesL_ (some 19) rfl rfl Try.func18 (by kernel_rfl) rfl #[.int .i64 (rd l0 x5_1)] rfl (by (try simp only [List.map_toArray,List.map_cons,List.map_nil]);first|done|rfl|(simp only [List.length_drop,List.length_take];rfl)) ?_;(with_reducible refine (octroiref01_May.calls (rd l0 x5_1) false _ A6.out).mono ?_);rintro e w' ⟨rfl,⟨nd,rfl⟩⟩;refine ⟨_,rfl,?_⟩))
         go_ret2
         exact ⟨by first|rfl|(simp [errW_none,errW_some]<;>rfl)|(simp [*,errW_none,errW_some]<;>rfl),by repeat (with_reducible first|exact HB.out|apply below_alloc|apply pw_below_drewN|apply below_drew1|refine below_set ?_ GE188.out)⟩
     · rw [if_neg c5] at H
       exact absurd H (by simp)
   · rw [if_neg c4] at H
     have c4b0:decide (x5_1<(l0.length:Int))=false:=decide_eq_false c4
     clear c4
     replace H:=Option.bind_eq_some_iff.mp H
     obtain ⟨⟨t189,t190⟩,A180,H⟩:=H
     replace H:(if t190=true then (some (t189,0)) else (some (0,3)))=some (r1,r2):=H
     have A18:=Aside0.mk A180
     clear A180
     by_cases c19:t190=true
     · subst c19
       have H1:(some (t189,0))=some (r1,r2):=by rw [if_pos rfl] at H;exact H
       clear H
       have H:=H1
       clear H1
       simp only [Option.some.injEq,Prod.mk.injEq] at H
       obtain ⟨rfl,rfl⟩:=H
       have hcz20_0:wr.cell? ⟨gb188,0,none⟩=some (.bool x189000_1):=(blk_cell BK188.out 0).trans rfl
       have hcz20_1:wr.cell? ⟨gb188,1,none⟩=some (u189001):=(blk_cell BK188.out 1).trans rfl
       have hfz20_0:=blk_frozen BK188.out 0
       have hfz20_1:=blk_frozen BK188.out 1
       obtain ⟨Ao21,co21,eo21⟩:=Kd.R_slice HO_189001.out
       subst eo21
       go_wp2_with (first|((with_reducible refine gate_callee (f:=28) rfl ?_);refine goesL_ (some 30) rfl rfl Try.func28 (by kernel_rfl) rfl #[.agg #[.bool x189000_1,.slice Ao21 x189001_1.length co21]] rfl (by (try simp only [List.map_toArray,List.map_cons,List.map_nil]);first|done|rfl|(simp only [List.length_drop,List.length_take];rfl)) ?_;(with_reducible refine (octroiref01_Int.calls k1 x189000_1 _ _ x189001_1 t189 true _ ?side1 ?side2 A18.out).mono ?_);(case side1=>repeat (first|exact (Kd.R_reads' HO_189001.out).2.2|(with_reducible refine Kd.C_alloc ?_ _)|(with_reducible refine Kd.C_drewN ?_ _)|(with_reducible refine Kd.C_drew ?_)));(case side2=>exact (Kd.R_reads' HO_189001.out).2.1);rintro e w22 ⟨rfl,hb⟩;refine ⟨_,rfl,?_⟩;have n0_:=Aside0.mk (Kd.R_below (by (with_reducible repeat (first|apply Kd.R_alloc|apply Kd.R_drewN|apply Kd.R_drew));exact HO_189001.out) hb);have n1_:=Aside0.mk (blk_below (g:=gb188) (o:=.cells #[.bool x189000_1,.slice Ao21 x189001_1.length co21] 73 (0,0)) (by (with_reducible repeat (first|refine blk_drewN ?_ _|refine blk_drew ?_|refine blk_alloc ?_ _));exact BK188.out) hb);have n2_:=Aside0.mk (below_step (by repeat (with_reducible first|exact HB.out|apply below_alloc|apply pw_below_drewN|apply below_drew1|refine below_set ?_ GE188.out)) hb);clear HO_189001;clear BK188;clear HB;have HO_189001:=n0_;have BK188:=n1_;have HB:=n2_;clear n0_ n1_ n2_;(try clear hb);(try clear hb2);(try clear hk);(try clear hi)))
       go_ret2
       exact ⟨by first|rfl|(simp [errW_none,errW_some]<;>rfl)|(simp [*,errW_none,errW_some]<;>rfl),by repeat (with_reducible first|exact HB.out|apply below_alloc|apply pw_below_drewN|apply below_drew1|refine below_set ?_ GE188.out)⟩
     · replace c19:=Bool.eq_false_iff.mpr c19
       subst c19
       have H1:(some (0,3))=some (r1,r2):=by rw [if_neg (show ¬ (false=true) by decide)] at H;exact H
       clear H
       have H:=H1
       clear H1
       simp only [Option.some.injEq,Prod.mk.injEq] at H
       obtain ⟨rfl,rfl⟩:=H
       have hcz23_0:wr.cell? ⟨gb188,0,none⟩=some (.bool x189000_1):=(blk_cell BK188.out 0).trans rfl
       have hcz23_1:wr.cell? ⟨gb188,1,none⟩=some (u189001):=(blk_cell BK188.out 1).trans rfl
       have hfz23_0:=blk_frozen BK188.out 0
       have hfz23_1:=blk_frozen BK188.out 1
       obtain ⟨Ao24,co24,eo24⟩:=Kd.R_slice HO_189001.out
       subst eo24
       go_wp2_with (first|((with_reducible refine gate_callee (f:=28) rfl ?_);refine goesL_ (some 30) rfl rfl Try.func28 (by kernel_rfl) rfl #[.agg #[.bool x189000_1,.slice Ao24 x189001_1.length co24]] rfl (by (try simp only [List.map_toArray,List.map_cons,List.map_nil]);first|done|rfl|(simp only [List.length_drop,List.length_take];rfl)) ?_;(with_reducible refine (octroiref01_Int.calls k1 x189000_1 _ _ x189001_1 t189 false _ ?side1 ?side2 A18.out).mono ?_);(case side1=>repeat (first|exact (Kd.R_reads' HO_189001.out).2.2|(with_reducible refine Kd.C_alloc ?_ _)|(with_reducible refine Kd.C_drewN ?_ _)|(with_reducible refine Kd.C_drew ?_)));(case side2=>exact (Kd.R_reads' HO_189001.out).2.1);rintro e w25 ⟨rfl,hb⟩;refine ⟨_,rfl,?_⟩;have n0_:=Aside0.mk (Kd.R_below (by (with_reducible repeat (first|apply Kd.R_alloc|apply Kd.R_drewN|apply Kd.R_drew));exact HO_189001.out) hb);have n1_:=Aside0.mk (blk_below (g:=gb188) (o:=.cells #[.bool x189000_1,.slice Ao24 x189001_1.length co24] 73 (0,0)) (by (with_reducible repeat (first|refine blk_drewN ?_ _|refine blk_drew ?_|refine blk_alloc ?_ _));exact BK188.out) hb);have n2_:=Aside0.mk (below_step (by repeat (with_reducible first|exact HB.out|apply below_alloc|apply pw_below_drewN|apply below_drew1|refine below_set ?_ GE188.out)) hb);clear HO_189001;clear BK188;clear HB;have HO_189001:=n0_;have BK188:=n1_;have HB:=n2_;clear n0_ n1_ n2_;(try clear hb);(try clear hb2);(try clear hk);(try clear hi)))
       go_ret2
       exact ⟨by first|rfl|(simp [errW_none,errW_some]<;>rfl)|(simp [*,errW_none,errW_some]<;>rfl),by repeat (with_reducible first|exact HB.out|apply below_alloc|apply pw_below_drewN|apply below_drew1|refine below_set ?_ GE188.out)⟩
end Go.Proofs.Ytlfkfajodnkkhaa.Print
