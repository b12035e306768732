/- Plain laws of the document's numbers: as whole numbers again,their sums,differences. -/
import Derived.Test.YthjondinjebalaaX0
import Derived.Test.YthjondinjebalaaX5
import Derived.Test.YthjondinjebalaaX6
import Derived.Test.YthjondinjebalaaX7
import Derived.Test.YthjondinjebalaaX8
import Derived.Test.YthjondinjebalaaAx8
import Derived.Test.YthjondinjebalaaMoney
import Derived.Test.YthjondinjebalaaX1
import Derived.Test.YthjondinjebalaaRef01A
namespace Go.Proofs.Ythjondinjebalaa.Print
open Go.RowKit Go.Proofs.YthjondinjebalaaW.PrintWords Go.Proofs.YthjondinjebalaaW.PrintLast Go.Proofs.YthjondinjebalaaW.PrintMore
attribute [local go_sem] max2_int min2_int max_two min_two max_three min_three max_four min_four   -- for this text's walks alone
set_option linter.unusedVariables false
set_option linter.unusedSimpArgs false
def octroiref01_Sub.j0:Nat→Int→Int→Bool→Option (Int × Int)
 | 0,_,_,_=>none
 | k+1,x0,x1,x15=>if x15=true then (some (0,2)) else ((octroiref01_Of.f k x0).bind fun bt316=>((octroiref01_Of.f k x1).bind fun bt320=>((octroiref01_Turn.f bt320.1 bt320.2).bind fun bt324=>((octroiref01_Add.f k bt316.1 bt316.2 bt324.1 bt324.2).bind fun bt328=>((octroiref01_Int.f k bt328.1 bt328.2).bind fun bt332=>(if bt332.2=true then (some (bt332.1,0)) else (some (0,3))))))))
def octroiref01_Sub.f (k:Nat) (a0:Int) (a1:Int):Option (Int × Int):=(octroiref01_May.f a0).bind fun t314=>(if t314=true then ((octroiref01_May.f a1).bind fun t315=>(octroiref01_Sub.j0 k a0 a1 (!t315))) else (octroiref01_Sub.j0 k a0 a1 true))
set_option maxHeartbeats 8000000 in
set_option maxRecDepth 100000 in
theorem octroiref01_Sub.calls (k:Nat) (a0:Int) (a1:Int) (r1:Int) (r2:Int) (w:World) (h:octroiref01_Sub.f k a0 a1=some (r1,r2)) :
 Calls Try.prog 22 #[.int .i64 a0,.int .i64 a1] w fun e w'=>e = .returned (.tuple #[.int .i64 r1,.int .i64 r2])∧Below w.heap.size w w':=by
 have HB:=Aside0.mk (Below.refl w.heap.size w)
 have H:((octroiref01_May.f a0).bind fun t314=>(if t314=true then ((octroiref01_May.f a1).bind fun t315=>(octroiref01_Sub.j0 k a0 a1 (!t315))) else (octroiref01_Sub.j0 k a0 a1 true)))=some (r1,r2):=h
 clear h
 have HC3:=Aside0.mk H
 clear H
 go_enter Try.func22,Try.ntmps22
 go_upto_region 1 with (fail)
 go_cut [15] (fun v15 wc=>∃ (kq:Nat) (x15_2:Bool),v15 = .bool x15_2∧Aside0 (octroiref01_Sub.j0 kq a0 a1 x15_2=some (r1,r2))∧Aside0 (kq≤k)∧Aside0 (Below w.heap.size w wc))
 case first =>
  have H:=HC3.out
  clear HC3
  replace H:=Option.bind_eq_some_iff.mp H
  obtain ⟨t314,A40,H⟩:=H
  replace H:(if t314=true then ((octroiref01_May.f a1).bind fun t315=>(octroiref01_Sub.j0 k a0 a1 (!t315))) else (octroiref01_Sub.j0 k a0 a1 true))=some (r1,r2):=H
  have A4:=Aside0.mk A40
  clear A40
  by_cases c5:t314=true
  · subst c5
    have H1:((octroiref01_May.f a1).bind fun t315=>(octroiref01_Sub.j0 k a0 a1 (!t315)))=some (r1,r2):=by rw [if_pos rfl] at H;exact H
    clear H
    have H:=H1
    clear H1
    replace H:=Option.bind_eq_some_iff.mp H
    obtain ⟨t315,A60,H⟩:=H
    replace H:(octroiref01_Sub.j0 k a0 a1 (!t315))=some (r1,r2):=H
    have A6:=Aside0.mk A60
    clear A60
    have H':=Aside0.mk H
    clear H
    go_wp2_with (first|((with_reducible refine gate_callee (f:=21) rfl ?_);refine goesL_ (some 9) rfl rfl Try.func21 (by kernel_rfl) rfl #[.int .i64 a0] rfl (by (try simp only [List.map_toArray,List.map_cons,List.map_nil]);first|done|rfl|(simp only [List.length_drop,List.length_take];rfl)) ?_;(with_reducible refine (octroiref01_May.calls a0 true _ A4.out).mono ?_);rintro e w' ⟨rfl,⟨nd,rfl⟩⟩;refine ⟨_,rfl,?_⟩)|(go_at_call 21;(with_reducible refine (octroiref01_May.calls a1 t315 _ A6.out).mono ?_);rintro e w' ⟨rfl,⟨nd,rfl⟩⟩))
    go_meet
    case rel=>exact ⟨_,(!t315),(by first|rfl|(simp;done)|(simp [*];done)),H',⟨by first|omega|exact Nat.le_refl _⟩,⟨by repeat (with_reducible first|exact HB.out|apply below_alloc|apply pw_below_drewN|apply below_drew1)⟩⟩
  · replace c5:=Bool.eq_false_iff.mpr c5
    subst c5
    have H1:(octroiref01_Sub.j0 k a0 a1 true)=some (r1,r2):=by rw [if_neg (show ¬ (false=true) by decide)] at H;exact H
    clear H
    have H:=H1
    clear H1
    have H':=Aside0.mk H
    clear H
    go_wp2_with (first|((with_reducible refine gate_callee (f:=21) rfl ?_);refine goesL_ (some 9) rfl rfl Try.func21 (by kernel_rfl) rfl #[.int .i64 a0] rfl (by (try simp only [List.map_toArray,List.map_cons,List.map_nil]);first|done|rfl|(simp only [List.length_drop,List.length_take];rfl)) ?_;(with_reducible refine (octroiref01_May.calls a0 false _ A4.out).mono ?_);rintro e w' ⟨rfl,⟨nd,rfl⟩⟩;refine ⟨_,rfl,?_⟩))
    go_meet
    case rel=>exact ⟨_,(true),(by first|rfl|(simp;done)|(simp [*];done)),H',⟨by first|omega|exact Nat.le_refl _⟩,⟨by repeat (with_reducible first|exact HB.out|apply below_alloc|apply pw_below_drewN|apply below_drew1)⟩⟩
 case rest =>
  clear HC3
  try clear c2
  try clear p2
  try clear c5
  obtain ⟨kq,x15_2,rfl,HA,HJ2,HB⟩:=hcut
  cases kq with
  | zero=>exact absurd HA.out (by simp [octroiref01_Sub.j0])
  | succ kj2 =>
   have H:=HA.out
   clear HA
   simp only [octroiref01_Sub.j0] at H
   by_cases c7:x15_2=true
   · subst c7
     have H1:(some (0,2))=some (r1,r2):=by rw [if_pos rfl] at H;exact H
     clear H
     have H:=H1
     clear H1
     simp only [Option.some.injEq,Prod.mk.injEq] at H
     obtain ⟨rfl,rfl⟩:=H
     go_wp2
     go_ret2
     exact ⟨by first|rfl|(simp [errW_none,errW_some]<;>rfl)|(simp [*,errW_none,errW_some]<;>rfl),by repeat (with_reducible first|exact HB.out|apply below_alloc|apply pw_below_drewN|apply below_drew1)⟩
   · replace c7:=Bool.eq_false_iff.mpr c7
     subst c7
     have H1:((octroiref01_Of.f kj2 a0).bind fun bt316=>((octroiref01_Of.f kj2 a1).bind fun bt320=>((octroiref01_Turn.f bt320.1 bt320.2).bind fun bt324=>((octroiref01_Add.f kj2 bt316.1 bt316.2 bt324.1 bt324.2).bind fun bt328=>((octroiref01_Int.f kj2 bt328.1 bt328.2).bind fun bt332=>(if bt332.2=true then (some (bt332.1,0)) else (some (0,3))))))))=some (r1,r2):=by rw [if_neg (show ¬ (false=true) by decide)] at H;exact H
     clear H
     have H:=H1
     clear H1
     replace H:=Option.bind_eq_some_iff.mp H
     obtain ⟨⟨t316,t317⟩,A80,H⟩:=H
     replace H:((octroiref01_Of.f kj2 a1).bind fun bt320=>((octroiref01_Turn.f bt320.1 bt320.2).bind fun bt324=>((octroiref01_Add.f kj2 t316 t317 bt324.1 bt324.2).bind fun bt328=>((octroiref01_Int.f kj2 bt328.1 bt328.2).bind fun bt332=>(if bt332.2=true then (some (bt332.1,0)) else (some (0,3)))))))=some (r1,r2):=H
     have A8:=Aside0.mk A80
     clear A80
     replace H:=Option.bind_eq_some_iff.mp H
     obtain ⟨⟨t320,t321⟩,A90,H⟩:=H
     replace H:((octroiref01_Turn.f t320 t321).bind fun bt324=>((octroiref01_Add.f kj2 t316 t317 bt324.1 bt324.2).bind fun bt328=>((octroiref01_Int.f kj2 bt328.1 bt328.2).bind fun bt332=>(if bt332.2=true then (some (bt332.1,0)) else (some (0,3))))))=some (r1,r2):=H
     have A9:=Aside0.mk A90
     clear A90
     replace H:=Option.bind_eq_some_iff.mp H
     obtain ⟨⟨t324,t325⟩,A100,H⟩:=H
     replace H:((octroiref01_Add.f kj2 t316 t317 t324 t325).bind fun bt328=>((octroiref01_Int.f kj2 bt328.1 bt328.2).bind fun bt332=>(if bt332.2=true then (some (bt332.1,0)) else (some (0,3)))))=some (r1,r2):=H
     have A10:=Aside0.mk A100
     clear A100
     replace H:=Option.bind_eq_some_iff.mp H
     obtain ⟨⟨t328,t329⟩,A110,H⟩:=H
     replace H:((octroiref01_Int.f kj2 t328 t329).bind fun bt332=>(if bt332.2=true then (some (bt332.1,0)) else (some (0,3))))=some (r1,r2):=H
     have A11:=Aside0.mk A110
     clear A110
     replace H:=Option.bind_eq_some_iff.mp H
     obtain ⟨⟨t332,t333⟩,A120,H⟩:=H
     replace H:(if t333=true then (some (t332,0)) else (some (0,3)))=some (r1,r2):=H
     have A12:=Aside0.mk A120
     clear A120
     by_cases c13:t333=true
     · subst c13
       have H1:(some (t332,0))=some (r1,r2):=by rw [if_pos rfl] at H;exact H
       clear H
       have H:=H1
       clear H1
       simp only [Option.some.injEq,Prod.mk.injEq] at H
       obtain ⟨rfl,rfl⟩:=H
       go_wp2_with (first|((with_reducible refine gate_callee (f:=29) rfl ?_);refine goesL_ (some 18) rfl rfl Try.func29 (by kernel_rfl) rfl #[.int .i64 a0] rfl (by (try simp only [List.map_toArray,List.map_cons,List.map_nil]);first|done|rfl|(simp only [List.length_drop,List.length_take];rfl)) ?_;(with_reducible refine (octroiref01_Of.calls kj2 a0 t316 t317 _ A8.out).mono ?_);rintro e w14 ⟨v318,rfl,ho0,hb⟩;refine ⟨_,rfl,?_⟩;have n0_:=Aside0.mk (Kd.R_lower ho0 (below_size (by repeat (with_reducible first|exact HB.out|apply below_alloc|apply pw_below_drewN|apply below_drew1))));have n1_:=Aside0.mk (below_step (by repeat (with_reducible first|exact HB.out|apply below_alloc|apply pw_below_drewN|apply below_drew1)) hb);clear HB;have HO319:=n0_;have HB:=n1_;clear n0_ n1_;(try clear hb);(try clear hb2);(try clear hk);(try clear hi);(try clear ho0))|((with_reducible refine gate_callee (f:=29) rfl ?_);refine goesL_ (some 20) rfl rfl Try.func29 (by kernel_rfl) rfl #[.int .i64 a1] rfl (by (try simp only [List.map_toArray,List.map_cons,List.map_nil]);first|done|rfl|(simp only [List.length_drop,List.length_take];rfl)) ?_;(with_reducible refine (octroiref01_Of.calls kj2 a1 t320 t321 _ A9.out).mono ?_);rintro e w15 ⟨v322,rfl,ho0,hb⟩;refine ⟨_,rfl,?_⟩;have n0_:=Aside0.mk (Kd.R_elder' (by (with_reducible repeat (first|apply Kd.R_alloc|apply Kd.R_drewN|apply Kd.R_drew));exact HO319.out) (Kd.R_base ho0) hb);have n1_:=Aside0.mk (Kd.R_lower (Kd.R_new' ho0 (Kd.R_lt (by (with_reducible repeat (first|apply Kd.R_alloc|apply Kd.R_drewN|apply Kd.R_drew));exact HO319.out))) (below_size (by repeat (with_reducible first|exact HB.out|apply below_alloc|apply pw_below_drewN|apply below_drew1))));have n2_:=Aside0.mk (below_step (by repeat (with_reducible first|exact HB.out|apply below_alloc|apply pw_below_drewN|apply below_drew1)) hb);clear HO319;clear HB;have HO319:=n0_;have HO323:=n1_;have HB:=n2_;clear n0_ n1_ n2_;(try clear hb);(try clear hb2);(try clear hk);(try clear hi);(try clear ho0);obtain ⟨Ao16,co16,eo16⟩:=Kd.R_slice HO323.out;subst eo16)|((with_reducible refine gate_callee (f:=41) rfl ?_);refine goesL_ (some 21) rfl rfl Try.func41 (by kernel_rfl) rfl #[.agg #[.bool t320,.slice Ao16 t321.length co16]] rfl (by (try simp only [List.map_toArray,List.map_cons,List.map_nil]);first|done|rfl|(simp only [List.length_drop,List.length_take];rfl)) ?_;(with_reducible refine (octroiref01_Turn.calls t320 (fun k_=>some k_=(.slice Ao16 t321.length co16:Value).ownBlock) (.slice Ao16 t321.length co16) t321 t324 t325 w _ ?side1 ?side2 A10.out).mono ?_);(case side1=>repeat (with_reducible first|exact HB.out|apply below_alloc|apply pw_below_drewN|apply below_drew1));(case side2=>exact Kd.R_tight rfl HO323.out);rintro e w17 ⟨v326,rfl,ho0,hb,hkp⟩;refine ⟨_,rfl,?_⟩;have n0_:=Aside0.mk (Kd.R_mono (ok':=fun k_=>some k_≠(v326:Value).ownBlock) (Kd.R_keptB (HO319.out) hkp (fun k_ hk_ hs_=>(hk_.2) hs_)) (fun k_ hk_=>fun e_=>Or.elim (ho0.1 k_ e_.symm) (fun hs_=>hk_.2.1 hs_) (fun hn_=>Nat.not_le.2 hk_.2.2 hn_)));have n1_:=Aside0.mk (Kd.R_mono (ok':=fun k_=>some k_≠(v318:Value).ownBlock) ho0 (fun k_ hk_=>Or.elim hk_ (fun hs_=>fun e_=>(((HO319.out).1 k_ e_.symm).2) hs_) (fun hn_=>(Kd.fresh' (Kd.R_lt (by (with_reducible repeat (first|apply Kd.R_alloc|apply Kd.R_drewN|apply Kd.R_drew));exact HO319.out)) k_ hn_))));have n2_:=Aside0.mk (hb);clear HO319;clear HB;clear HO323;have HO319:=n0_;have HO327:=n1_;have HB:=n2_;clear n0_ n1_ n2_;(try clear hb);(try clear hkp);(try clear ho0);obtain ⟨Ao18,co18,eo18⟩:=Kd.R_slice HO319.out;subst eo18;obtain ⟨Ao19,co19,eo19⟩:=Kd.R_slice HO327.out;subst eo19)|((with_reducible refine gate_callee (f:=28) rfl ?_);refine goesL_ (some 22) rfl rfl Try.func28 (by kernel_rfl) rfl #[.agg #[.bool t316,.slice Ao18 t317.length co18],.agg #[.bool t324,.slice Ao19 t325.length co19]] rfl (by (try simp only [List.map_toArray,List.map_cons,List.map_nil]);first|done|rfl|(simp only [List.length_drop,List.length_take];rfl)) ?_;(with_reducible refine (octroiref01_Add.calls kj2 t316 _ _ t317 t324 _ _ t325 t328 t329 _ ?side1 ?side2 ?side3 ?side4 A11.out).mono ?_);(case side1=>repeat (first|exact (Kd.R_reads' HO319.out).2.2|(with_reducible refine Kd.C_alloc ?_ _)|(with_reducible refine Kd.C_drewN ?_ _)|(with_reducible refine Kd.C_drew ?_)));(case side2=>exact (Kd.R_reads' HO319.out).2.1);(case side3=>repeat (first|exact (Kd.R_reads' HO327.out).2.2|(with_reducible refine Kd.C_alloc ?_ _)|(with_reducible refine Kd.C_drewN ?_ _)|(with_reducible refine Kd.C_drew ?_)));(case side4=>exact (Kd.R_reads' HO327.out).2.1);rintro e w20 ⟨v330,rfl,ho0,hb⟩;refine ⟨_,rfl,?_⟩;have n0_:=Aside0.mk (Kd.R_elder' (by (with_reducible repeat (first|apply Kd.R_alloc|apply Kd.R_drewN|apply Kd.R_drew));exact HO319.out) (Kd.R_base ho0) hb);have n1_:=Aside0.mk (Kd.R_elder' (by (with_reducible repeat (first|apply Kd.R_alloc|apply Kd.R_drewN|apply Kd.R_drew));exact HO327.out) (Kd.R_base ho0) hb);have n2_:=Aside0.mk (Kd.R_lower (Kd.R_new' (Kd.R_new' ho0 (Kd.R_lt (by (with_reducible repeat (first|apply Kd.R_alloc|apply Kd.R_drewN|apply Kd.R_drew));exact HO319.out))) (Kd.R_lt (by (with_reducible repeat (first|apply Kd.R_alloc|apply Kd.R_drewN|apply Kd.R_drew));exact HO327.out))) (below_size (by repeat (with_reducible first|exact HB.out|apply below_alloc|apply pw_below_drewN|apply below_drew1))));have n3_:=Aside0.mk (below_step (by repeat (with_reducible first|exact HB.out|apply below_alloc|apply pw_below_drewN|apply below_drew1)) hb);clear HO319;clear HO327;clear HB;have HO319:=n0_;have HO327:=n1_;have HO331:=n2_;have HB:=n3_;clear n0_ n1_ n2_ n3_;(try clear hb);(try clear hb2);(try clear hk);(try clear hi);(try clear ho0);obtain ⟨Ao21,co21,eo21⟩:=Kd.R_slice HO331.out;subst eo21)|((with_reducible refine gate_callee (f:=30) rfl ?_);refine goesL_ (some 23) rfl rfl Try.func30 (by kernel_rfl) rfl #[.agg #[.bool t328,.slice Ao21 t329.length co21]] rfl (by (try simp only [List.map_toArray,List.map_cons,List.map_nil]);first|done|rfl|(simp only [List.length_drop,List.length_take];rfl)) ?_;(with_reducible refine (octroiref01_Int.calls kj2 t328 _ _ t329 t332 true _ ?side1 ?side2 A12.out).mono ?_);(case side1=>repeat (first|exact (Kd.R_reads' HO331.out).2.2|(with_reducible refine Kd.C_alloc ?_ _)|(with_reducible refine Kd.C_drewN ?_ _)|(with_reducible refine Kd.C_drew ?_)));(case side2=>exact (Kd.R_reads' HO331.out).2.1);rintro e w22 ⟨rfl,hb⟩;refine ⟨_,rfl,?_⟩;have n0_:=Aside0.mk (Kd.R_below (by (with_reducible repeat (first|apply Kd.R_alloc|apply Kd.R_drewN|apply Kd.R_drew));exact HO319.out) hb);have n1_:=Aside0.mk (Kd.R_below (by (with_reducible repeat (first|apply Kd.R_alloc|apply Kd.R_drewN|apply Kd.R_drew));exact HO327.out) hb);have n2_:=Aside0.mk (Kd.R_below (by (with_reducible repeat (first|apply Kd.R_alloc|apply Kd.R_drewN|apply Kd.R_drew));exact HO331.out) hb);have n3_:=Aside0.mk (below_step (by repeat (with_reducible first|exact HB.out|apply below_alloc|apply pw_below_drewN|apply below_drew1)) hb);clear HO319;clear HO327;clear HO331;clear HB;have HO319:=n0_;have HO327:=n1_;have HO331:=n2_;have HB:=n3_;clear n0_ n1_ n2_ n3_;(try clear hb);(try clear hb2);(try clear hk);(try clear hi)))
       go_ret2
       exact ⟨by first|rfl|(simp [errW_none,errW_some]<;>rfl)|(simp [*,errW_none,errW_some]<;>rfl),by repeat (with_reducible first|exact HB.out|apply below_alloc|apply pw_below_drewN|apply below_drew1)⟩
     · replace c13:=Bool.eq_false_iff.mpr c13
       subst c13
       have H1:(some (0,3))=some (r1,r2):=by rw [if_neg (show ¬ (false=true) by decide)] at H;exact H
       clear H
       have H:=H1
       clear H1
       simp only [Option.some.injEq,Prod.mk.injEq] at H
       obtain ⟨rfl,rfl⟩:=H
       go_wp2_with (first|((with_reducible refine gate_callee (f:=29) rfl ?_);refine goesL_ (some 18) rfl rfl Try.func29 (by kernel_rfl) rfl #[.int .i64 a0] rfl (by (try simp only [List.map_toArray,List.map_cons,List.map_nil]);first|done|rfl|(simp only [List.length_drop,List.length_take];rfl)) ?_;(with_reducible refine (octroiref01_Of.calls kj2 a0 t316 t317 _ A8.out).mono ?_);rintro e w23 ⟨v318,rfl,ho0,hb⟩;refine ⟨_,rfl,?_⟩;have n0_:=Aside0.mk (Kd.R_lower ho0 (below_size (by repeat (with_reducible first|exact HB.out|apply below_alloc|apply pw_below_drewN|apply below_drew1))));have n1_:=Aside0.mk (below_step (by repeat (with_reducible first|exact HB.out|apply below_alloc|apply pw_below_drewN|apply below_drew1)) hb);clear HB;have HO319:=n0_;have HB:=n1_;clear n0_ n1_;(try clear hb);(try clear hb2);(try clear hk);(try clear hi);(try clear ho0))|((with_reducible refine gate_callee (f:=29) rfl ?_);refine goesL_ (some 20) rfl rfl Try.func29 (by kernel_rfl) rfl #[.int .i64 a1] rfl (by (try simp only [List.map_toArray,List.map_cons,List.map_nil]);first|done|rfl|(simp only [List.length_drop,List.length_take];rfl)) ?_;(with_reducible refine (octroiref01_Of.calls kj2 a1 t320 t321 _ A9.out).mono ?_);rintro e w24 ⟨v322,rfl,ho0,hb⟩;refine ⟨_,rfl,?_⟩;have n0_:=Aside0.mk (Kd.R_elder' (by (with_reducible repeat (first|apply Kd.R_alloc|apply Kd.R_drewN|apply Kd.R_drew));exact HO319.out) (Kd.R_base ho0) hb);have n1_:=Aside0.mk (Kd.R_lower (Kd.R_new' ho0 (Kd.R_lt (by (with_reducible repeat (first|apply Kd.R_alloc|apply Kd.R_drewN|apply Kd.R_drew));exact HO319.out))) (below_size (by repeat (with_reducible first|exact HB.out|apply below_alloc|apply pw_below_drewN|apply below_drew1))));have n2_:=Aside0.mk (below_step (by repeat (with_reducible first|exact HB.out|apply below_alloc|apply pw_below_drewN|apply below_drew1)) hb);clear HO319;clear HB;have HO319:=n0_;have HO323:=n1_;have HB:=n2_;clear n0_ n1_ n2_;(try clear hb);(try clear hb2);(try clear hk);(try clear hi);(try clear ho0);obtain ⟨Ao25,co25,eo25⟩:=Kd.R_slice HO323.out;subst eo25)|((with_reducible refine gate_callee (f:=41) rfl ?_);refine goesL_ (some 21) rfl rfl Try.func41 (by kernel_rfl) rfl #[.agg #[.bool t320,.slice Ao25 t321.length co25]] rfl (by (try simp only [List.map_toArray,List.map_cons,List.map_nil]);first|done|rfl|(simp only [List.length_drop,List.length_take];rfl)) ?_;(with_reducible refine (octroiref01_Turn.calls t320 (fun k_=>some k_=(.slice Ao25 t321.length co25:Value).ownBlock) (.slice Ao25 t321.length co25) t321 t324 t325 w _ ?side1 ?side2 A10.out).mono ?_);(case side1=>repeat (with_reducible first|exact HB.out|apply below_alloc|apply pw_below_drewN|apply below_drew1));(case side2=>exact Kd.R_tight rfl HO323.out);rintro e w26 ⟨v326,rfl,ho0,hb,hkp⟩;refine ⟨_,rfl,?_⟩;have n0_:=Aside0.mk (Kd.R_mono (ok':=fun k_=>some k_≠(v326:Value).ownBlock) (Kd.R_keptB (HO319.out) hkp (fun k_ hk_ hs_=>(hk_.2) hs_)) (fun k_ hk_=>fun e_=>Or.elim (ho0.1 k_ e_.symm) (fun hs_=>hk_.2.1 hs_) (fun hn_=>Nat.not_le.2 hk_.2.2 hn_)));have n1_:=Aside0.mk (Kd.R_mono (ok':=fun k_=>some k_≠(v318:Value).ownBlock) ho0 (fun k_ hk_=>Or.elim hk_ (fun hs_=>fun e_=>(((HO319.out).1 k_ e_.symm).2) hs_) (fun hn_=>(Kd.fresh' (Kd.R_lt (by (with_reducible repeat (first|apply Kd.R_alloc|apply Kd.R_drewN|apply Kd.R_drew));exact HO319.out)) k_ hn_))));have n2_:=Aside0.mk (hb);clear HO319;clear HB;clear HO323;have HO319:=n0_;have HO327:=n1_;have HB:=n2_;clear n0_ n1_ n2_;(try clear hb);(try clear hkp);(try clear ho0);obtain ⟨Ao27,co27,eo27⟩:=Kd.R_slice HO319.out;subst eo27;obtain ⟨Ao28,co28,eo28⟩:=Kd.R_slice HO327.out;subst eo28)|((with_reducible refine gate_callee (f:=28) rfl ?_);refine goesL_ (some 22) rfl rfl Try.func28 (by kernel_rfl) rfl #[.agg #[.bool t316,.slice Ao27 t317.length co27],.agg #[.bool t324,.slice Ao28 t325.length co28]] rfl (by (try simp only [List.map_toArray,List.map_cons,List.map_nil]);first|done|rfl|(simp only [List.length_drop,List.length_take];rfl)) ?_;(with_reducible refine (octroiref01_Add.calls kj2 t316 _ _ t317 t324 _ _ t325 t328 t329 _ ?side1 ?side2 ?side3 ?side4 A11.out).mono ?_);(case side1=>repeat (first|exact (Kd.R_reads' HO319.out).2.2|(with_reducible refine Kd.C_alloc ?_ _)|(with_reducible refine Kd.C_drewN ?_ _)|(with_reducible refine Kd.C_drew ?_)));(case side2=>exact (Kd.R_reads' HO319.out).2.1);(case side3=>repeat (first|exact (Kd.R_reads' HO327.out).2.2|(with_reducible refine Kd.C_alloc ?_ _)|(with_reducible refine Kd.C_drewN ?_ _)|(with_reducible refine Kd.C_drew ?_)));(case side4=>exact (Kd.R_reads' HO327.out).2.1);rintro e w29 ⟨v330,rfl,ho0,hb⟩;refine ⟨_,rfl,?_⟩;have n0_:=Aside0.mk (Kd.R_elder' (by (with_reducible repeat (first|apply Kd.R_alloc|apply Kd.R_drewN|apply Kd.R_drew));exact HO319.out) (Kd.R_base ho0) hb);have n1_:=Aside0.mk (Kd.R_elder' (by (with_reducible repeat (first|apply Kd.R_alloc|apply Kd.R_drewN|apply Kd.R_drew));exact HO327.out) (Kd.R_base ho0) hb);have n2_:=Aside0.mk (Kd.R_lower (Kd.R_new' (Kd.R_new' ho0 (Kd.R_lt (by (with_reducible repeat (first|apply Kd.R_alloc|apply Kd.R_drewN|apply Kd.R_drew));exact HO319.out))) (Kd.R_lt (by (with_reducible repeat (first|apply Kd.R_alloc|apply Kd.R_drewN|apply Kd.R_drew));exact HO327.out))) (below_size (by repeat (with_reducible first|exact HB.out|apply below_alloc|apply pw_below_drewN|apply below_drew1))));have n3_:=Aside0.mk (below_step (by repeat (with_reducible first|exact HB.out|apply below_alloc|apply pw_below_drewN|apply below_drew1)) hb);clear HO319;clear HO327;clear HB;have HO319:=n0_;have HO327:=n1_;have HO331:=n2_;have HB:=n3_;clear n0_ n1_ n2_ n3_;(try clear hb);(try clear hb2);(try clear hk);(try clear hi);(try clear ho0);obtain ⟨Ao30,co30,eo30⟩:=Kd.R_slice HO331.out;subst eo30)|((with_reducible refine gate_callee (f:=30) rfl ?_);refine goesL_ (some 23) rfl rfl Try.func30 (by kernel_rfl) rfl #[.agg #[.bool t328,.slice Ao30 t329.length co30]] rfl (by (try simp only [List.map_toArray,List.map_cons,List.map_nil]);first|done|rfl|(simp only [List.length_drop,List.length_take];rfl)) ?_;(with_reducible refine (octroiref01_Int.calls kj2 t328 _ _ t329 t332 false _ ?side1 ?side2 A12.out).mono ?_);(case side1=>repeat (first|exact (Kd.R_reads' HO331.out).2.2|(with_reducible refine Kd.C_alloc ?_ _)|(with_reducible refine Kd.C_drewN ?_ _)|(with_reducible refine Kd.C_drew ?_)));(case side2=>exact (Kd.R_reads' HO331.out).2.1);rintro e w31 ⟨rfl,hb⟩;refine ⟨_,rfl,?_⟩;have n0_:=Aside0.mk (Kd.R_below (by (with_reducible repeat (first|apply Kd.R_alloc|apply Kd.R_drewN|apply Kd.R_drew));exact HO319.out) hb);have n1_:=Aside0.mk (Kd.R_below (by (with_reducible repeat (first|apply Kd.R_alloc|apply Kd.R_drewN|apply Kd.R_drew));exact HO327.out) hb);have n2_:=Aside0.mk (Kd.R_below (by (with_reducible repeat (first|apply Kd.R_alloc|apply Kd.R_drewN|apply Kd.R_drew));exact HO331.out) hb);have n3_:=Aside0.mk (below_step (by repeat (with_reducible first|exact HB.out|apply below_alloc|apply pw_below_drewN|apply below_drew1)) hb);clear HO319;clear HO327;clear HO331;clear HB;have HO319:=n0_;have HO327:=n1_;have HO331:=n2_;have HB:=n3_;clear n0_ n1_ n2_ n3_;(try clear hb);(try clear hb2);(try clear hk);(try clear hi)))
       go_ret2
       exact ⟨by first|rfl|(simp [errW_none,errW_some]<;>rfl)|(simp [*,errW_none,errW_some]<;>rfl),by repeat (with_reducible first|exact HB.out|apply below_alloc|apply pw_below_drewN|apply below_drew1)⟩
end Go.Proofs.Ythjondinjebalaa.Print
namespace Go.Proofs.Ythjondinjebalaa.Print
open Go.RowKit Go.Proofs.YthjondinjebalaaW.PrintWords Go.Proofs.YthjondinjebalaaW.PrintLast Go.Proofs.YthjondinjebalaaW.PrintMore
set_option linter.unusedVariables false
set_option linter.unusedSimpArgs false
theorem of_ev_may (a:Int) (h:mayB a=true):∃ n l,Ev (fun k=>octroiref01_Of.f k a) (n,l)∧IsNum n l a∧l.length≤3:=by
 rw [mayB_iff] at h
 exact of_ev a (by omega) (by omega)
theorem int_loop (n:Bool) (l:List Int) (h:Dig l) (hv:dval l≤4611686018427387904) (hl:l.length≤1000000010):∀ (i:Nat) (x:Int),i≤l.length→x=dval (l.drop i)→
 Ev (fun k=>octroiref01_Int.l0 k x ((i:Int) - 1) n l) (if n=true then -dval l else dval l,true):=by
 intro i
 induction i with
 | zero =>
  intro x hi hx
  rw [List.drop_zero] at hx
  subst hx
  have h0:=dval_0 h
  refine Ev.step (f:=fun _=>some (if n=true then -dval l else dval l,true)) (fun k=>?_) (Ev.now _)
  simp only [octroiref01_Int.l0]
  rw [if_neg (by omega)]
  cases n with
  | true=>rw [if_pos rfl,w64 (by omega) (by omega)];rfl
  | false=>rw [if_neg (by simp)];rfl
 | succ i ih =>
  intro x hi hx
  have e:((i+1:Nat):Int) - 1=(i:Int):=by omega
  have hr:=h.rd i (by omega)
  have hd:=drop_rd l i (by omega)
  have hle:dval (l.drop i)≤dval l:=by
   have h1:=dval_append (l.take i) (l.drop i)
   rw [List.take_append_drop] at h1
   have h2:=dval_0 (h.take i)
   have h3:=dval_0 (h.drop i)
   have h4:1 * dval (l.drop i)≤2147483648 ^ (l.take i).length * dval (l.drop i):=Int.mul_le_mul_of_nonneg_right (by have:=pow_pos' (l.take i).length;omega) h3
   omega
  have h0:=dval_0 (h.drop (i+1))
  rw [hd] at hle
  simp only [dval] at hle
  rw [← hx] at hle h0
  have:=ih (x * 2147483648+rd l i) (by omega) (by rw [hd];simp only [dval];rw [← hx];omega)
  refine Ev.step (fun k=>?_) this
  simp only [octroiref01_Int.l0]
  rw [e,if_pos (by omega),if_pos (by omega),if_pos (by omega),w64 (x:=x * 2147483648) (by omega) (by omega),w64 (x:=x * 2147483648+rd l i) (by omega) (by omega),w64 (x:=(i:Int) - 1) (by omega) (by omega)]
theorem int_ev (n:Bool) (l:List Int) (v:Int) (h:IsNum n l v) (hl:l.length≤1000000010) :
 Ev (fun k=>octroiref01_Int.f k n l) (if mayB v=true then (v,true) else (0,false)):=by
 obtain ⟨mn,ml,hm,im,lm⟩:=of_ev 4611686018427387904 (by omega) (by omega)
 obtain ⟨r,hr,ht⟩:=cmp_ev l ml h.dig im.dig h.nz im.nz hl (by omega)
 have ha:=h.abs
 have hb:=im.abs
 rw [if_neg (by omega)] at hb
 have hmay:=mayB_iff v
 unfold Tells at ht
 by_cases rp:r>0
 · have hno:¬ (mayB v=true):=by
    rw [hmay]
    have:=ht.1.1 rp
    split at ha<;>omega
   rw [if_neg hno]
   have:=evb hm (f:=fun bt k=>(octroiref01_cmp.f k l bt.2).bind fun t=>(if t>0 then (some (0,false)) else (octroiref01_Int.l0 k 0 (wrap64 ((l.length:Int) - 1)) n l)))
    (evb hr (f:=fun t k=>(if t>0 then (some (0,false)) else (octroiref01_Int.l0 k 0 (wrap64 ((l.length:Int) - 1)) n l))) (evn (fun k=>by rw [if_pos rp])))
   exact this
 · have hle:dval l≤4611686018427387904:=by
    have:=ht.1
    omega
   have hyes:mayB v=true:=by
    rw [hmay]
    split at ha<;>omega
   rw [if_pos hyes]
   have hlp:=int_loop n l h.dig hle hl l.length 0 (Nat.le_refl _) (by rw [List.drop_eq_nil_of_le (Nat.le_refl _)];rfl)
   rw [← h.val] at hlp
   have:=evb hm (f:=fun bt k=>(octroiref01_cmp.f k l bt.2).bind fun t=>(if t>0 then (some (0,false)) else (octroiref01_Int.l0 k 0 (wrap64 ((l.length:Int) - 1)) n l)))
    (evb hr (f:=fun t k=>(if t>0 then (some (0,false)) else (octroiref01_Int.l0 k 0 (wrap64 ((l.length:Int) - 1)) n l))) (Ev.congr (fun k=>by rw [if_neg rp,w64 (by omega) (by omega)]) hlp))
   exact this
theorem ref_may (a:Int):octroiref01_May.f a=some (mayB a):=by
 unfold octroiref01_May.f mayB
 by_cases h:a≥-4611686018427387904
 · rw [if_pos h,decide_eq_true (p:=-4611686018427387904≤a) h];rfl
 · rw [if_neg h,decide_eq_false (p:=-4611686018427387904≤a) h];rfl
theorem sum_loop (l:List Int) (hl:l.length≤1000000) (d:Nat):∀ (i:Nat) (n:Bool) (q:List Int) (s:Int),i+d=l.length→IsNum n q s→q.length≤10+i→
 Ev (fun k=>octroiref01_Sum.l0 k l (i:Int) n q) (sumV ((l.drop i).all mayB) (s+(l.drop i).sum)):=by
 induction d with
 | zero =>
  intro i n q s hi hq hlen
  rw [List.drop_eq_nil_of_le (by omega)]
  simp only [List.all_nil,List.sum_nil,Int.add_zero,sumV,cond_true]
  have:=evb (int_ev n q s hq (by omega)) (β:=Int × Int) (f:=fun bt _=>if bt.2=true then (some (bt.1,0)) else (some (0,3))) (r:=bif mayB s then (s,0) else (0,3)) (evn (fun k=>by cases mayB s<;>simp))
  refine Ev.step (fun k=>?_) this
  simp only [octroiref01_Sum.l0]
  rw [if_neg (by omega)]
 | succ d ih =>
  intro i n q s hi hq hlen
  have hw:wrap64 ((i:Int)+1)=((i+1:Nat):Int):=by rw [w64 (by omega) (by omega)];omega
  rw [drop_rd l i (by omega)]
  simp only [List.all_cons,List.sum_cons]
  by_cases hm:mayB (rd l i)=true
  rotate_left
  · rw [Bool.not_eq_true] at hm
    rw [hm]
    simp only [Bool.false_and,sumV,cond_false]
    refine Ev.step (f:=fun _=>some (0,2)) (fun k=>?_) (Ev.now _)
    simp only [octroiref01_Sum.l0]
    rw [if_pos (by omega),if_pos (by omega),ref_may,hm]
    simp
  · obtain ⟨n1,l1,h1,i1,b1⟩:=of_ev_may _ hm
    rw [hm]
    simp only [Bool.true_and]
    obtain ⟨n2,l2,h2,i2,b2⟩:=add_ev n n1 q l1 s _ hq i1 (by omega) (by omega)
    have:=ih (i+1) n2 l2 (s+rd l i) (by omega) i2 (by omega)
    rw [Int.add_assoc] at this
    refine Ev.step (fun k=>?_) (evb h1 (f:=fun bt k=>(octroiref01_Add.f k n q bt.1 bt.2).bind fun bt=>(octroiref01_Sum.l0 k l ((i+1:Nat):Int) bt.1 bt.2)) (evb h2 (f:=fun bt k=>octroiref01_Sum.l0 k l ((i+1:Nat):Int) bt.1 bt.2) this))
    simp only [octroiref01_Sum.l0]
    rw [if_pos (by omega),if_pos (by omega),ref_may,hm,hw]
    simp
theorem sum_ev (l:List Int) (hl:l.length≤1000000):Ev (fun k=>octroiref01_Sum.f k l) (money_Sum.v l):=by
 have:=sum_loop l hl l.length 0 false [] 0 (by omega) IsNum.zero (by simp)
 simpa [octroiref01_Sum.f,money_Sum.v] using this
theorem turn_ev (n:Bool) (l:List Int) (v:Int) (h:IsNum n l v):∃ m,octroiref01_Turn.f n l=some (m,l)∧IsNum m l (-v):=by
 have hv:=h.val
 have h0:=dval_0 h.dig
 unfold octroiref01_Turn.f
 by_cases e:(l.length:Int)=0
 · have e':l=[]:=List.length_eq_zero_iff.1 (by omega)
   subst e'
   refine ⟨n,by rw [if_pos e],h.dig,h.nz,h.pos,?_⟩
   rw [hv];simp [dval]
 · have hne:l≠[]:=by intro e';subst e';simp at e
   have hp:=dval_ge h.dig h.nz hne
   have hq:=pow_pos' (l.length - 1)
   refine ⟨!n,by rw [if_neg e],h.dig,h.nz,fun _=>by omega,?_⟩
   rw [hv];cases n<;>simp
def subV (a b:Int):Int × Int:=sumV (mayB a && mayB b) (a - b)
theorem sub_ev (a b:Int):Ev (fun k=>octroiref01_Sub.f k a b) (subV a b):=by
 by_cases ha:mayB a=true
 · by_cases hb:mayB b=true
   · obtain ⟨n1,l1,h1,i1,b1⟩:=of_ev_may a ha
     obtain ⟨n2,l2,h2,i2,b2⟩:=of_ev_may b hb
     obtain ⟨n3,h3,i3⟩:=turn_ev _ _ _ i2
     obtain ⟨n4,l4,h4,i4,b4⟩:=add_ev n1 n3 l1 l2 _ _ i1 i3 (by omega) (by omega)
     have h5:=int_ev n4 l4 _ i4 (by omega)
     rw [← Int.sub_eq_add_neg] at h5
     have hend:Ev (fun k=>octroiref01_Sub.j0 k a b false) (subV a b):=by
      refine Ev.step (fun k=>?_) (evb h1 (β:=Int × Int) (f:=fun bt1 k=>(octroiref01_Of.f k b).bind fun bt2=>(octroiref01_Turn.f bt2.1 bt2.2).bind fun bt3=>(octroiref01_Add.f k bt1.1 bt1.2 bt3.1 bt3.2).bind fun bt4=>(octroiref01_Int.f k bt4.1 bt4.2).bind fun bt5=>if bt5.2=true then some (bt5.1,0) else some (0,3))
       (evb h2 (β:=Int × Int) (f:=fun bt2 k=>(octroiref01_Turn.f bt2.1 bt2.2).bind fun bt3=>(octroiref01_Add.f k n1 l1 bt3.1 bt3.2).bind fun bt4=>(octroiref01_Int.f k bt4.1 bt4.2).bind fun bt5=>if bt5.2=true then some (bt5.1,0) else some (0,3))
       (Ev.congr (fun k=>by simp only [h3,Option.bind_some]) (evb h4 (β:=Int × Int) (f:=fun bt4 k=>(octroiref01_Int.f k bt4.1 bt4.2).bind fun bt5=>if bt5.2=true then some (bt5.1,0) else some (0,3))
       (evb h5 (β:=Int × Int) (f:=fun bt5 _=>if bt5.2=true then some (bt5.1,0) else some (0,3)) (r:=subV a b) (evn (fun k=>by unfold subV sumV;rw [ha,hb];cases mayB (a - b)<;>simp)))))))
      simp only [octroiref01_Sub.j0]
      rw [if_neg (by simp)]
     refine Ev.congr (fun k=>?_) hend
     unfold octroiref01_Sub.f
     rw [ref_may,ref_may,ha,hb];rfl
   · rw [Bool.not_eq_true] at hb
     have hend:Ev (fun k=>octroiref01_Sub.j0 k a b true) (subV a b) :=
      Ev.step (f:=fun _=>some (subV a b)) (fun k=>by simp only [octroiref01_Sub.j0];unfold subV sumV;rw [ha,hb];rfl) (Ev.now _)
     refine Ev.congr (fun k=>?_) hend
     unfold octroiref01_Sub.f
     rw [ref_may,ref_may,ha,hb];rfl
 · rw [Bool.not_eq_true] at ha
   have hend:Ev (fun k=>octroiref01_Sub.j0 k a b true) (subV a b) :=
    Ev.step (f:=fun _=>some (subV a b)) (fun k=>by simp only [octroiref01_Sub.j0];unfold subV sumV;rw [ha];rfl) (Ev.now _)
   refine Ev.congr (fun k=>?_) hend
   unfold octroiref01_Sub.f
   rw [ref_may,ha];rfl
end Go.Proofs.Ythjondinjebalaa.Print
