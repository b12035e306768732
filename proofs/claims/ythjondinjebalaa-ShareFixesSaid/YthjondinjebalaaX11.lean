/- A text of this seat. -/
import Derived.Test.YthjondinjebalaaX0
import Derived.Test.YthjondinjebalaaX5
import Derived.Test.YthjondinjebalaaX8
import Derived.Test.YthjondinjebalaaX10
namespace Go.Proofs.Ythjondinjebalaa.Print
open Go.RowKit Go.Proofs.YthjondinjebalaaW.PrintWords Go.Proofs.YthjondinjebalaaW.PrintLast Go.Proofs.YthjondinjebalaaW.PrintMore
attribute [local go_sem] max2_int min2_int max_two min_two max_three min_three max_four min_four   -- for this text's walks alone
set_option linter.unusedVariables false
set_option linter.unusedSimpArgs false
mutual
def octroiref03_Split.j0:Nat→Int→List Int→Int→Bool→Option (List Int × Int)
 | 0,_,_,_,_=>none
 | k+1,x0,x1,x6,x30=>if x30=true then (some (([]:List Int),2)) else (if x0<0 then (octroiref03_Split.j1 k x0 x1 x6 (wrap64 (-x0))) else (octroiref03_Split.j1 k x0 x1 x6 x0))
def octroiref03_Split.j1:Nat→Int→List Int→Int→Int→Option (List Int × Int)
 | 0,_,_,_,_=>none
 | k+1,x0,x1,x6,x8=>octroiref03_Split.l0 k x0 x1 x6 x8 ([]:List Int) ([]:List (S56)) x8 0
def octroiref03_Split.l0:Nat→Int→List Int→Int→Int→List Int→List (S56)→Int→Int→Option (List Int × Int)
 | 0,_,_,_,_,_,_,_,_=>none
 | k+1,x0,x1,x6,x8,x9,x10,x11,x12=>if x12<(x1.length:Int) then (if 0≤x12 then ((octroiref03_whole.f k x8 (rd x1 x12) x6).bind fun bt290=>(if x9.length<17592186044416 then (if x10.length<4398046511104 then (octroiref03_Split.l0 k x0 x1 x6 x8 (x9 ++ [bt290.1]) (x10 ++ [(⟨bt290.2.1,bt290.2.2⟩:S56)]) (wrap64 (x11 - bt290.1)) (wrap64 (x12+1))) else (none)) else (none))) else (none)) else (if 0≤(x1.length:Int) then (if ((x1.length:Int):Int).toNat≤281474976710656 then (octroiref03_Split.l1 k x0 x9 x10 x11 (List.replicate ((x1.length:Int):Int).toNat false)) else (none)) else (none))
def octroiref03_Split.l1:Nat→Int→List Int→List (S56)→Int→List Bool→Option (List Int × Int)
 | 0,_,_,_,_,_=>none
 | k+1,x0,x9,x10,x11,x15=>if x11>0 then (octroiref03_Split.l2 k x0 x9 x10 x11 x15 (-1) 0) else (octroiref03_Split.l3 k x0 x9 0)
def octroiref03_Split.l2:Nat→Int→List Int→List (S56)→Int→List Bool→Int→Int→Option (List Int × Int)
 | 0,_,_,_,_,_,_,_=>none
 | k+1,x0,x9,x10,x11,x15,x16,x17=>if x17<(x10.length:Int) then (if 0≤x17 then (if x17<(x15.length:Int) then (if rdOf false x15 x17=true then (octroiref03_Split.l2 k x0 x9 x10 x11 x15 x16 (wrap64 (x17+1))) else (if x16<0 then (octroiref03_Split.l2 k x0 x9 x10 x11 x15 x17 (wrap64 (x17+1))) else (if 0≤x16 then (if x16<(x10.length:Int) then ((octroiref01_Cmp.f k ((rd_T56 x10 x17).f0) ((rd_T56 x10 x17).f1) ((rd_T56 x10 x16).f0) ((rd_T56 x10 x16).f1)).bind fun t308=>(if t308>0 then (octroiref03_Split.l2 k x0 x9 x10 x11 x15 x17 (wrap64 (x17+1))) else (octroiref03_Split.l2 k x0 x9 x10 x11 x15 x16 (wrap64 (x17+1))))) else (none)) else (none)))) else (none)) else (none)) else (if 0≤x16 then (if x16<(x15.length:Int) then (if x16<(x9.length:Int) then (octroiref03_Split.l1 k x0 (x9.set (x16:Int).toNat (wrap64 ((rd x9 x16)+1))) x10 (wrap64 (x11 - 1)) (x15.set (x16:Int).toNat true)) else (none)) else (none)) else (none))
def octroiref03_Split.l3:Nat→Int→List Int→Int→Option (List Int × Int)
 | 0,_,_,_=>none
 | k+1,x0,x9,x18=>if x18<(x9.length:Int) then (if x0<0 then (if 0≤x18 then (octroiref03_Split.l3 k x0 (x9.set (x18:Int).toNat (wrap64 (-(rd x9 x18)))) (wrap64 (x18+1))) else (none)) else (octroiref03_Split.l3 k x0 x9 (wrap64 (x18+1)))) else (some (x9,0))
end
def octroiref03_Split.f (k:Nat) (a0:Int) (l1:List Int):Option (List Int × Int):=(octroiref03_Right.f k l1).bind fun bt286=>((octroiref01_May.f a0).bind fun t288=>(if t288=true then (octroiref03_Split.j0 k a0 l1 bt286.1 (!bt286.2)) else (octroiref03_Split.j0 k a0 l1 bt286.1 true)))
def octroiref03_Split.T23:Bool × List (List Nat × List Nat):=(true,[([],[]),([],[]),([0,1],[0,1]),([2],[2]),([3],[3]),([4],[4]),([5],[5]),([6,5],[5,6]),([7,5,5],[5,7]),([8],[8]),([8],[8]),([9,10,8],[8,9,10]),([11,8],[8,11]),([8],[8]),([8],[8]),([13,14,8],[8,13,14]),([15,8],[8,15]),([12,16,8,8],[8,12,16]),([17,8],[8,17]),([8,18,5],[5,8,18]),([5,19],[5,19])])
def octroiref03_Split.B23:List Nat:=[0,0,3,7,15,31,63,127,255,511,511,2047,4095,511,511,25087,57855,131071,262143,524287,1048575]
theorem octroiref03_Split.tab23:rtab .any (opsOf Try.f13 23)=octroiref03_Split.T23:=by kernel_rfl
theorem octroiref03_Split.bits23:waitsOk octroiref03_Split.T23.2 octroiref03_Split.B23=true:=by kernel_rfl
set_option maxHeartbeats 8000000 in
set_option maxRecDepth 100000 in
theorem octroiref03_Split.calls (k:Nat) (a0:Int) (A1:Option Addr) (c1:Nat) (l1:List Int) (r1:List Int) (r2:Int) (w:World) (hr1:Kd.C (Kd.int .i64) w A1 l1.length l1) (hc1:l1.length≤c1) (h:octroiref03_Split.f k a0 l1=some (r1,r2)) :
 Calls Try.prog 13 #[.int .i64 a0,.slice A1 l1.length c1] w fun e w'=>∃ v0_:Value,e = .returned (.tuple #[v0_,.int .i64 r2])∧Kd.R (Kd.int .i64) 3 w' w.heap.size (fun _=>True) v0_ r1∧Below w.heap.size w w':=by
 have hu56:=Try.underlying56
 have HR1:=Aside0.mk hr1
 have HC1:=Aside0.mk hc1
 clear hr1 hc1
 have HB:=Aside0.mk (Below.refl w.heap.size w)
 have H:((octroiref03_Right.f k l1).bind fun bt286=>((octroiref01_May.f a0).bind fun t288=>(if t288=true then (octroiref03_Split.j0 k a0 l1 bt286.1 (!bt286.2)) else (octroiref03_Split.j0 k a0 l1 bt286.1 true))))=some (r1,r2):=h
 clear h
 replace H:=Option.bind_eq_some_iff.mp H
 obtain ⟨⟨t286,t287⟩,A30,H⟩:=H
 replace H:((octroiref01_May.f a0).bind fun t288=>(if t288=true then (octroiref03_Split.j0 k a0 l1 t286 (!t287)) else (octroiref03_Split.j0 k a0 l1 t286 true)))=some (r1,r2):=H
 have A3:=Aside0.mk A30
 clear A30
 have HC4:=Aside0.mk H
 clear H
 go_enter Try.func13,Try.ntmps13
 go_upto_region 2 with (first|((with_reducible refine gate_callee (f:=31) rfl ?_);refine goesL_ (some 21) rfl rfl Try.func31 (by kernel_rfl) rfl #[.slice A1 l1.length c1] rfl (by (try simp only [List.map_toArray,List.map_cons,List.map_nil]);first|done|rfl|(simp only [List.length_drop,List.length_take];rfl)) ?_;(with_reducible refine (octroiref03_Right.calls k _ _ l1 t286 t287 _ ?side1 ?side2 A3.out).mono ?_);(case side1=>repeat (first|exact HR1.out|(with_reducible refine Kd.C_alloc ?_ _)|(with_reducible refine Kd.C_drewN ?_ _)|(with_reducible refine Kd.C_drew ?_)));(case side2=>exact HC1.out);rintro e w' ⟨rfl,⟨nd,rfl⟩⟩;refine ⟨_,rfl,?_⟩))
 (try simp only [Act.put,List.setIfInBounds_toArray,List.set_cons_zero,List.set_cons_succ])
 go_cut [30] (fun v30 wc=>∃ (kq:Nat) (x30_3:Bool),v30 = .bool x30_3∧Aside0 (octroiref03_Split.j0 kq a0 l1 t286 x30_3=some (r1,r2))∧Aside0 (kq≤k)∧Aside0 (Below w.heap.size w wc))
 case first =>
  have H:=HC4.out
  clear HC4
  replace H:=Option.bind_eq_some_iff.mp H
  obtain ⟨t288,A50,H⟩:=H
  replace H:(if t288=true then (octroiref03_Split.j0 k a0 l1 t286 (!t287)) else (octroiref03_Split.j0 k a0 l1 t286 true))=some (r1,r2):=H
  have A5:=Aside0.mk A50
  clear A50
  by_cases c6:t288=true
  · subst c6
    have H1:(octroiref03_Split.j0 k a0 l1 t286 (!t287))=some (r1,r2):=by rw [if_pos rfl] at H;exact H
    clear H
    have H:=H1
    clear H1
    have H':=Aside0.mk H
    clear H
    go_wp2_with (first|((with_reducible refine gate_callee (f:=21) rfl ?_);refine goesL_ (some 25) rfl rfl Try.func21 (by kernel_rfl) rfl #[.int .i64 a0] rfl (by (try simp only [List.map_toArray,List.map_cons,List.map_nil]);first|done|rfl|(simp only [List.length_drop,List.length_take];rfl)) ?_;(with_reducible refine (octroiref01_May.calls a0 true _ A5.out).mono ?_);rintro e w' ⟨rfl,⟨nd,rfl⟩⟩;refine ⟨_,rfl,?_⟩))
    go_meet
    case rel=>exact ⟨_,(!t287),(by first|rfl|(simp;done)|(simp [*];done)),H',⟨by first|omega|exact Nat.le_refl _⟩,⟨by repeat (with_reducible first|exact HB.out|apply below_alloc|apply pw_below_drewN|apply below_drew1)⟩⟩
  · replace c6:=Bool.eq_false_iff.mpr c6
    subst c6
    have H1:(octroiref03_Split.j0 k a0 l1 t286 true)=some (r1,r2):=by rw [if_neg (show ¬ (false=true) by decide)] at H;exact H
    clear H
    have H:=H1
    clear H1
    have H':=Aside0.mk H
    clear H
    go_wp2_with (first|((with_reducible refine gate_callee (f:=21) rfl ?_);refine goesL_ (some 25) rfl rfl Try.func21 (by kernel_rfl) rfl #[.int .i64 a0] rfl (by (try simp only [List.map_toArray,List.map_cons,List.map_nil]);first|done|rfl|(simp only [List.length_drop,List.length_take];rfl)) ?_;(with_reducible refine (octroiref01_May.calls a0 false _ A5.out).mono ?_);rintro e w' ⟨rfl,⟨nd,rfl⟩⟩;refine ⟨_,rfl,?_⟩))
    go_meet
    case rel=>exact ⟨_,(true),(by first|rfl|(simp;done)|(simp [*];done)),H',⟨by first|omega|exact Nat.le_refl _⟩,⟨by repeat (with_reducible first|exact HB.out|apply below_alloc|apply pw_below_drewN|apply below_drew1)⟩⟩
 case rest =>
  clear HC4
  try clear c1
  try clear c2
  try clear p2
  try clear c3
  try clear c6
  obtain ⟨kq,x30_3,rfl,HA,HJ3,HB⟩:=hcut
  cases kq with
  | zero=>exact absurd HA.out (by simp [octroiref03_Split.j0])
  | succ kj3 =>
   have H:=HA.out
   clear HA
   simp only [octroiref03_Split.j0] at H
   by_cases c7:x30_3=true
   · subst c7
     have H1:(some (([]:List Int),2))=some (r1,r2):=by rw [if_pos rfl] at H;exact H
     clear H
     have H:=H1
     clear H1
     simp only [Option.some.injEq,Prod.mk.injEq] at H
     obtain ⟨rfl,rfl⟩:=H
     go_wp2
     go_ret2
     exact ⟨_,by first|rfl|(simp [errW_none,errW_some]<;>rfl)|(simp [*,errW_none,errW_some]<;>rfl),by first|exact Kd.R_nil _ _ _ _ _|exact Kd.N_nil _ _ _ _ _|exact Kd.V_nil _ _ _ _ _|exact Kd.Q_nil _ _ _ _ _|exact Kd.S_nil _ _ _ _ _,by repeat (with_reducible first|exact HB.out|apply below_alloc|apply pw_below_drewN|apply below_drew1)⟩
   · replace c7:=Bool.eq_false_iff.mpr c7
     subst c7
     have H1:(if a0<0 then (octroiref03_Split.j1 kj3 a0 l1 t286 (wrap64 (-a0))) else (octroiref03_Split.j1 kj3 a0 l1 t286 a0))=some (r1,r2):=by rw [if_neg (show ¬ (false=true) by decide)] at H;exact H
     clear H
     have H:=H1
     clear H1
     have HC8:=Aside0.mk H
     clear H
     go_upto_if 33 with (fail)
     go_cut [8] (fun v8 wc=>∃ (kq:Nat) (x8_7:Int),v8 = .int .i64 x8_7∧Aside0 (octroiref03_Split.j1 kq a0 l1 t286 x8_7=some (r1,r2))∧Aside0 (kq≤kj3)∧Aside0 (Below w.heap.size w wc))
     case first =>
      have H:=HC8.out
      clear HC8
      by_cases c9:a0<0
      · rw [if_pos c9] at H
        have c9b0:decide (a0<0)=true:=decide_eq_true c9
        clear c9
        (first|rw [c9b0]|(simp only [i64_w,i32_w];rw [c9b0])|skip)
        have H':=Aside0.mk H
        clear H
        go_wp2
        go_meet
        case rel=>exact ⟨_,(wrap64 (-a0)),(by first|rfl|(simp;done)|(simp [*];done)),H',⟨by have:=HJ3.out;first|omega|exact Nat.le_refl _⟩,⟨by repeat (with_reducible first|exact HB.out|apply below_alloc|apply pw_below_drewN|apply below_drew1)⟩⟩
      · rw [if_neg c9] at H
        have c9b0:decide (a0<0)=false:=decide_eq_false c9
        clear c9
        (first|rw [c9b0]|(simp only [i64_w,i32_w];rw [c9b0])|skip)
        have H':=Aside0.mk H
        clear H
        go_wp2
        go_meet
        case rel=>exact ⟨_,(a0),(by first|rfl|(simp;done)|(simp [*];done)),H',⟨by have:=HJ3.out;first|omega|exact Nat.le_refl _⟩,⟨by repeat (with_reducible first|exact HB.out|apply below_alloc|apply pw_below_drewN|apply below_drew1)⟩⟩
     case rest =>
      clear HC8
      try clear c1
      try clear c2
      try clear p2
      try clear c3
      try clear c6
      try clear p6
      try clear c7
      try clear c9
      try clear c9b0
      try clear p2
      obtain ⟨kq,x8_7,rfl,HA,HJ7,HB⟩:=hcut
      cases kq with
      | zero=>exact absurd HA.out (by simp [octroiref03_Split.j1])
      | succ kj7 =>
       have H:=HA.out
       clear HA
       simp only [octroiref03_Split.j1] at H
       have H':=Aside0.mk H
       clear H
       go_wp2
       go_loopg [9,10,11,12] kj7 (fun kq v9 v10 v11 v12 w'=>∃ (x9_3:List Int) (x10_3:List (S56)) (x11_3:Int) (x12_3:Int),v11 = .int .i64 x11_3∧v12 = .int .i64 x12_3∧Aside0 (octroiref03_Split.l0 kq a0 l1 t286 x8_7 x9_3 x10_3 x11_3 x12_3=some (r1,r2))∧Aside0 (kq≤kj7)∧Aside0 (Kd.R (Kd.int .i64) 3 w' w.heap.size (fun _=>True) v9 x9_3)∧Aside0 (Kd.S k56 56 w' w.heap.size (fun k_=>some k_≠(v9:Value).ownBlock) v10 x10_3)∧Aside0 (Below w.heap.size w w'))
       case atStart=>exact ⟨(([]:List Int)),(([]:List (S56))),(x8_7),(0),(by first|rfl|(simp;done)|(simp [*];done)),(by first|rfl|(simp;done)|(simp [*];done)),H',⟨Nat.le_refl _⟩,⟨by first|exact Kd.R_nil _ _ _ _ _|exact Kd.N_nil _ _ _ _ _|exact Kd.V_nil _ _ _ _ _|exact Kd.Q_nil _ _ _ _ _|exact Kd.S_nil _ _ _ _ _⟩,⟨by first|exact Kd.S_nil _ _ _ _ _|exact Kd.N_nil _ _ _ _ _|exact Kd.V_nil _ _ _ _ _|exact Kd.Q_nil _ _ _ _ _|exact Kd.R_nil _ _ _ _ _⟩,⟨by repeat (with_reducible first|exact HB.out|apply below_alloc|apply pw_below_drewN|apply below_drew1)⟩⟩
       case round =>
        clear H'
        try clear c1
        try clear c2
        try clear p2
        try clear c3
        try clear c6
        try clear p6
        try clear c7
        try clear c9
        try clear c9b0
        try clear p2
        try clear p6
        obtain ⟨x9_3,x10_3,x11_3,x12_3,rfl,rfl,HA,HK3,HO_9,HO_10,HB⟩:=hrel
        cases gk with
        | zero=>exact absurd HA.out (by simp [octroiref03_Split.l0])
        | succ k3 =>
         have H:=HA.out
         clear HA
         simp only [octroiref03_Split.l0] at H
         by_cases c10:x12_3<(l1.length:Int)
         · rw [if_pos c10] at H
           have c10b0:decide (x12_3<(l1.length:Int))=true:=decide_eq_true c10
           clear c10
           by_cases c11:0≤x12_3
           · rw [if_pos c11] at H
             have c11b0:decide (0≤x12_3)=true:=decide_eq_true c11
             clear c11
             replace H:=Option.bind_eq_some_iff.mp H
             obtain ⟨⟨t290,t291,t292⟩,A120,H⟩:=H
             replace H:(if x9_3.length<17592186044416 then (if x10_3.length<4398046511104 then (octroiref03_Split.l0 k3 a0 l1 t286 x8_7 (x9_3 ++ [t290]) (x10_3 ++ [(⟨t291,t292⟩:S56)]) (wrap64 (x11_3 - t290)) (wrap64 (x12_3+1))) else (none)) else (none))=some (r1,r2):=H
             have A12:=Aside0.mk A120
             clear A120
             by_cases c13:x9_3.length<17592186044416
             · rw [if_pos c13] at H
               have LMc13:=Aside0.mk c13
               clear c13
               obtain ⟨y296,hy296⟩:∃ y_:List Int,y_=(x9_3 ++ [t290]):=⟨_,rfl⟩
               replace H:(if x10_3.length<4398046511104 then (octroiref03_Split.l0 k3 a0 l1 t286 x8_7 y296 (x10_3 ++ [(⟨t291,t292⟩:S56)]) (wrap64 (x11_3 - t290)) (wrap64 (x12_3+1))) else (none))=some (r1,r2):=by first|(rw [hy296];with_reducible exact H)|(have H2_:=(Option.bind_some _ _).symm.trans H;rw [hy296];with_reducible exact H2_)|(have H2_:=(Option.bind_some _ _).symm.trans H;with_reducible exact H2_)|with_reducible exact H|(rw [hy296];exact H)|exact H
               have Ny296:=Aside0.mk hy296
               clear hy296
               by_cases c14:x10_3.length<4398046511104
               · rw [if_pos c14] at H
                 have LMc14:=Aside0.mk c14
                 clear c14
                 obtain ⟨y299,hy299⟩:∃ y_:List (S56),y_=(x10_3 ++ [(⟨t291,t292⟩:S56)]):=⟨_,rfl⟩
                 replace H:(octroiref03_Split.l0 k3 a0 l1 t286 x8_7 y296 y299 (wrap64 (x11_3 - t290)) (wrap64 (x12_3+1)))=some (r1,r2):=by first|(rw [hy299];with_reducible exact H)|(have H2_:=(Option.bind_some _ _).symm.trans H;rw [hy299];with_reducible exact H2_)|(have H2_:=(Option.bind_some _ _).symm.trans H;with_reducible exact H2_)|with_reducible exact H|(rw [hy299];exact H)|exact H
                 have Ny299:=Aside0.mk hy299
                 clear hy299
                 have H':=Aside0.mk H
                 clear H
                 have p289:0≤(x12_3:Int):=of_decide_eq_true (by assumption)
                 have q289:x12_3<(l1.length:Int):=of_decide_eq_true (by assumption)
                 obtain ⟨ad289,e289,hx289_0⟩:=Kd.at_int HR1.out x12_3 p289 q289
                 cases e289
                 replace hx289_0:=(HB.out.cell (World.block_lt_of_cell? w _ hx289_0)).trans hx289_0
                 replace p289:=eq_true p289
                 replace q289:=eq_true q289
                 go_wp2_with (first|((with_reducible refine gate_callee (f:=32) rfl ?_);refine goesL_ (some 50) rfl rfl Try.func32 (by kernel_rfl) rfl #[.int .i64 x8_7,.int .i64 (rd l1 x12_3),.int .i64 t286] rfl (by (try simp only [List.map_toArray,List.map_cons,List.map_nil]);first|done|rfl|(simp only [List.length_drop,List.length_take];rfl)) ?_;(with_reducible refine (octroiref03_whole.calls k3 x8_7 (rd l1 x12_3) t286 t290 t291 t292 _ A12.out).mono ?_);rintro e w15 ⟨v293,rfl,ho0,hb⟩;refine ⟨_,rfl,?_⟩;have n0_:=Aside0.mk (Kd.R_elder' (by (with_reducible repeat (first|apply Kd.R_alloc|apply Kd.R_drewN|apply Kd.R_drew));exact HO_9.out) (Kd.R_base ho0) hb);have n1_:=Aside0.mk (Kd.S_elder' (by (with_reducible repeat (first|apply Kd.S_alloc|apply Kd.S_drewN|apply Kd.S_drew));exact HO_10.out) (Kd.R_base ho0) hb);have n2_:=Aside0.mk (Kd.R_lower (Kd.R_new' ho0 (Kd.R_lt (by (with_reducible repeat (first|apply Kd.R_alloc|apply Kd.R_drewN|apply Kd.R_drew));exact HO_9.out))) (below_size (by repeat (with_reducible first|exact HB.out|apply below_alloc|apply pw_below_drewN|apply below_drew1))));have n3_:=Aside0.mk (below_step (by repeat (with_reducible first|exact HB.out|apply below_alloc|apply pw_below_drewN|apply below_drew1)) hb);clear HO_9;clear HO_10;clear HB;have HO_9:=n0_;have HO_10:=n1_;have HO294:=n2_;have HB:=n3_;clear n0_ n1_ n2_ n3_;(try clear hb);(try clear hb2);(try clear hk);(try clear hi);(try clear ho0))|((with_reducible refine gate_dst (N:=14) rfl ?_);refine box_event ?hg (N:=14) ?hd (cs:=#[.bool false,.slice none 0 0]) (t:=56) ?hr ?_;(case hd=>rfl);(case hg=>rfl);(case hr=>first|(go_simp;done)|(go_simp;rfl));intro gb295 hg w16 hbox hb;have n0_:=Aside0.mk (Kd.R_below (by (with_reducible repeat (first|apply Kd.R_alloc|apply Kd.R_drewN|apply Kd.R_drew));exact HO_9.out) hb);have n1_:=Aside0.mk (Kd.S_below (Kd.S_elderB (by (with_reducible repeat (first|apply Kd.S_alloc|apply Kd.S_drewN|apply Kd.S_drew));exact HO_10.out) gb295 (Nat.le_of_eq hg.symm)) hb);have n2_:=Aside0.mk (Kd.R_below (by (with_reducible repeat (first|apply Kd.R_alloc|apply Kd.R_drewN|apply Kd.R_drew));exact HO294.out) hb);have n3_:=Aside0.mk (below_step (by repeat (with_reducible first|exact HB.out|apply below_alloc|apply pw_below_drewN|apply below_drew1)) hb);have n4_:=Aside0.mk (hbox);have n5_:=Aside0.mk ((by rw [hg];exact (below_size (by repeat (with_reducible first|exact HB.out|apply below_alloc|apply pw_below_drewN|apply below_drew1))):w.heap.size≤gb295));have n6_:=Aside0.mk ((by rw [hg];exact (below_size (by repeat (with_reducible first|exact HB.out|apply below_alloc|apply pw_below_drewN|apply below_drew1))):w.heap.size≤gb295));clear HO_9;clear HO_10;clear HO294;clear HB;have HO_9:=n0_;have HO_10:=n1_;have HO294:=n2_;have HB:=n3_;have BK295:=n4_;have GW295:=n5_;have GE295:=n6_;clear n0_ n1_ n2_ n3_ n4_ n5_ n6_;clear hb hbox hg;have hcz17_0:w16.cell? ⟨gb295,0,none⟩=some (.bool false):=(blk_cell BK295.out 0).trans rfl;have hcz17_1:w16.cell? ⟨gb295,1,none⟩=some (.slice none 0 0):=(blk_cell BK295.out 1).trans rfl;have hfz17_0:=blk_frozen BK295.out 0;have hfz17_1:=blk_frozen BK295.out 1;obtain ⟨Ao18,co18,eo18⟩:=Kd.R_slice HO294.out;subst eo18)|((with_reducible refine gate_builtin (b:=.append) (xs:=#[.tmp 53,.tmp 55]) rfl ?_);at_builtin;refine Kd.R_append (Kd.int .i64) (w0:=w) w.heap.size rfl (.tmp 53) (.tmp 55) 22 3 (.int .i64 0) 8 rfl Try.underlying22 info3 rfl (by decide) (by omega) u9 x9_3 t290 [.int .i64 t290] (fun k_=>some k_≠(.slice Ao18 t292.length co18:Value).ownBlock) (fun _=>False) rfl (by first|(go_simp;done)|(go_simp;rfl)) ?aP (fun _ hk=>hk.elim) ?aF ?aO ?aB ?aS ?aL ?_;(case aP=>exact rfl);(case aB=>exact (by repeat (with_reducible first|exact HB.out|apply below_alloc|apply pw_below_drewN|apply below_drew1|refine below_set ?_ GE295.out)));(case aF=>exact (fun k_ hk=>Kd.fresh' (Kd.R_lt (by (with_reducible repeat (first|apply Kd.R_alloc|apply Kd.R_drewN|apply Kd.R_drew));exact (Kd.R_mono (Kd.R_far (p:=⟨gb295,1,none⟩) (Kd.R_far (p:=⟨gb295,0,none⟩) (Kd.R_types HO294.out BK295.out (by decide)) (fun _ hk=>hk.2) (.bool t291)) (fun _ hk=>hk.2) (.slice Ao18 t292.length co18)) (fun _ h_=>h_.1)))) k_ hk));(case aO=>exact (by (with_reducible repeat (first|apply Kd.R_alloc|apply Kd.R_drewN|apply Kd.R_drew));exact Kd.R_mono (Kd.R_far (p:=⟨gb295,1,none⟩) (Kd.R_far (p:=⟨gb295,0,none⟩) (Kd.R_types HO_9.out BK295.out (by decide)) (fun _ hk=>hk.2) (.bool t291)) (fun _ hk=>hk.2) (.slice Ao18 t292.length co18)) (fun _ hk=>hk.1.2)));(case aS=>exact (below_size (by repeat (with_reducible first|exact HB.out|apply below_alloc|apply pw_below_drewN|apply below_drew1|refine below_set ?_ GE295.out))));(case aL=>have:=LMc13.out;omega);intro v297 w19 ho hb hg hat;rw [← Ny296.out] at ho;have n0_:=Aside0.mk (Kd.S_after (ok:=(fun k_=>some k_≠(.slice Ao18 t292.length co18:Value).ownBlock∧k_≠gb295)) (by (with_reducible repeat (first|apply Kd.S_alloc|apply Kd.S_drewN|apply Kd.S_drew));exact Kd.S_mono (Kd.S_far (p:=⟨gb295,1,none⟩) (Kd.S_far (p:=⟨gb295,0,none⟩) (Kd.S_mono HO_10.out (fun k_ hk=>(⟨hk,hk.2⟩:_∧k_≠gb295))) (fun _ hk=>hk.2) (.bool t291)) (fun _ hk=>hk.2) (.slice Ao18 t292.length co18)) (fun _ hk=>⟨⟨hk.1.1.2,hk.1.2⟩,hk.1.1.1⟩)) hg hat);have n1_:=Aside0.mk (Kd.R_after (ok:=(fun _=>True)) (by (with_reducible repeat (first|apply Kd.R_alloc|apply Kd.R_drewN|apply Kd.R_drew));exact Kd.R_mono (Kd.R_far (p:=⟨gb295,1,none⟩) (Kd.R_far (p:=⟨gb295,0,none⟩) (Kd.R_types HO294.out BK295.out (by decide)) (fun _ hk=>hk.2) (.bool t291)) (fun _ hk=>hk.2) (.slice Ao18 t292.length co18)) (fun _ hk=>⟨trivial,hk.1.2⟩)) hg hat);have n2_:=Aside0.mk (blk_grown (g:=gb295) (o:=.cells #[.bool t291,.slice Ao18 t292.length co18] 56 (0,0)) (by (with_reducible repeat (first|refine blk_drewN ?_ _|refine blk_drew ?_|refine blk_alloc ?_ _));refine blk_put (cs:=#[.bool t291,.slice none 0 0]) ?_ 1 _ rfl;(with_reducible repeat (first|refine blk_drewN ?_ _|refine blk_drew ?_|refine blk_alloc ?_ _));refine blk_put (cs:=#[.bool false,.slice none 0 0]) ?_ 0 _ rfl;(with_reducible repeat (first|refine blk_drewN ?_ _|refine blk_drew ?_|refine blk_alloc ?_ _));exact BK295.out) hg (Kd.R_ne HO_9.out BK295.out (by decide)));have n3_:=Aside0.mk (hb);have n4_:=Aside0.mk (ho);clear HO_10;clear HO294;clear BK295;clear HB;clear HO_9;have HO_10:=n0_;have HO294:=n1_;have BK295:=n2_;have HB:=n3_;have HO298:=n4_;clear n0_ n1_ n2_ n3_ n4_;clear ho hb hg hat;have hcz20_0:w19.cell? ⟨gb295,0,none⟩=some (.bool t291):=(blk_cell BK295.out 0).trans rfl;have hcz20_1:w19.cell? ⟨gb295,1,none⟩=some (.slice Ao18 t292.length co18):=(blk_cell BK295.out 1).trans rfl;have hfz20_0:=blk_frozen BK295.out 0;have hfz20_1:=blk_frozen BK295.out 1)|((with_reducible refine gate_builtin (b:=.append) (xs:=#[.tmp 57,.tmp 59]) rfl ?_);at_builtin;refine Kd.S_append k56 (w0:=w) w.heap.size rfl (.tmp 57) (.tmp 59) 60 56 (.agg #[(.bool false),(.slice none 0 0)]) 32 rfl Try.underlying60 info56 rfl (by decide) (by omega) u10 x10_3 (⟨t291,t292⟩:S56) [.bool t291,.slice Ao18 t292.length co18] (fun k_=>some k_≠(v297:Value).ownBlock∧k_≠gb295) (fun k_=>some k_=(.slice Ao18 t292.length co18:Value).ownBlock) rfl rfl ?aP (fun k_ hk_=>((Kd.R_mono (ok':=fun k_=>((fun k_=>some k_≠(v297:Value).ownBlock∧k_≠gb295)) k_∧some k_≠(u10:Value).ownBlock) (Kd.R_types (Kd.R_apart' (HO294.out) (Kd.S_typed HO_10.out) (by decide)) BK295.out (by decide)) (fun k_ hk=>⟨⟨hk.1.1.2,hk.2⟩,hk.1.2⟩))).1 k_ hk_.symm) ?aF ?aO ?aB ?aS ?aL ?_;(case aP=>exact k56_mkM _ _ _ (⟨t291,t292⟩:S56) (Kd.R_mono (Kd.R_tight rfl (Kd.R_mono (ok':=fun k_=>((fun k_=>some k_≠(v297:Value).ownBlock∧k_≠gb295)) k_∧some k_≠(u10:Value).ownBlock) (Kd.R_types (Kd.R_apart' (HO294.out) (Kd.S_typed HO_10.out) (by decide)) BK295.out (by decide)) (fun k_ hk=>⟨⟨hk.1.1.2,hk.2⟩,hk.1.2⟩))) (fun _ h_=>h_)));(case aB=>exact (by repeat (with_reducible first|exact HB.out|apply below_alloc|apply pw_below_drewN|apply below_drew1|refine below_set ?_ GE295.out)));(case aF=>exact (fun k_ hk=>⟨Kd.fresh' (Kd.R_lt (by (with_reducible repeat (first|apply Kd.R_alloc|apply Kd.R_drewN|apply Kd.R_drew));exact HO298.out)) k_ hk,Kd.freshB (g:=gb295) (o:=.cells #[.bool t291,.slice Ao18 t292.length co18] 56 (0,0)) (by (with_reducible repeat (first|refine blk_drewN ?_ _|refine blk_drew ?_|refine blk_alloc ?_ _));exact BK295.out) k_ hk⟩));(case aO=>exact (by (with_reducible repeat (first|apply Kd.S_alloc|apply Kd.S_drewN|apply Kd.S_drew));exact Kd.S_mono HO_10.out (fun k_ hk=>⟨⟨hk.2,hk.1.2⟩,fun e_=>hk.1.1 e_⟩)));(case aS=>exact (below_size (by repeat (with_reducible first|exact HB.out|apply below_alloc|apply pw_below_drewN|apply below_drew1|refine below_set ?_ GE295.out))));(case aL=>have:=LMc14.out;omega);intro v300 w21 ho hb hg hat;rw [← Ny299.out] at ho;have n0_:=Aside0.mk (blk_grown (g:=gb295) (o:=.cells #[.bool t291,.slice Ao18 t292.length co18] 56 (0,0)) (by (with_reducible repeat (first|refine blk_drewN ?_ _|refine blk_drew ?_|refine blk_alloc ?_ _));exact BK295.out) hg (Kd.S_away HO_10.out (fun _ hk=>hk.1.2)));have n1_:=Aside0.mk (Kd.R_over' (by (with_reducible repeat (first|apply Kd.R_alloc|apply Kd.R_drewN|apply Kd.R_drew));exact HO298.out) (Kd.S_typed (by (with_reducible repeat (first|apply Kd.S_alloc|apply Kd.S_drewN|apply Kd.S_drew));exact HO_10.out)) (by decide) hg);have n2_:=Aside0.mk (hb);have n3_:=Aside0.mk (ho);clear BK295;clear HO298;clear HB;clear HO_10;clear HO294;have BK295:=n0_;have HO298:=n1_;have HB:=n2_;have HO301:=n3_;clear n0_ n1_ n2_ n3_;clear ho hb hg hat))
                 go_roundg k3
                 case measure=>have:=HJ3.out;have:=HJ7.out;have:=HK3.out;omega
                 case rel=>exact ⟨(y296),(y299),(wrap64 (x11_3 - t290)),(wrap64 (x12_3+1)),(by first|rfl|(simp;done)|(simp [*];done)),(by first|rfl|(simp;done)|(simp [*];done)),H',⟨by have:=HJ3.out;have:=HJ7.out;have:=HK3.out;omega⟩,⟨by (with_reducible repeat (first|apply Kd.R_alloc|apply Kd.R_drewN|apply Kd.R_drew));exact Kd.R_mono HO298.out (fun _ hk=>trivial)⟩,⟨by (with_reducible repeat (first|apply Kd.S_alloc|apply Kd.S_drewN|apply Kd.S_drew));exact Kd.S_mono HO301.out (fun _ hk=>hk.1)⟩,⟨by repeat (with_reducible first|exact HB.out|apply below_alloc|apply pw_below_drewN|apply below_drew1|refine below_set ?_ GE295.out)⟩⟩
               · rw [if_neg c14] at H
                 exact absurd H (by simp)
             · rw [if_neg c13] at H
               exact absurd H (by simp)
           · rw [if_neg c11] at H
             exact absurd H (by simp)
         · rw [if_neg c10] at H
           have c10b0:decide (x12_3<(l1.length:Int))=false:=decide_eq_false c10
           clear c10
           by_cases c22:0≤(l1.length:Int)
           · rw [if_pos c22] at H
             have c22b0:=eq_true c22
             have c22b1:decide (0≤(l1.length:Int))=true:=decide_eq_true c22
             clear c22
             by_cases c23:((l1.length:Int):Int).toNat≤281474976710656
             · rw [if_pos c23] at H
               have c23b0:=eq_true c23
               have c23b1:decide (((l1.length:Int):Int).toNat≤281474976710656)=true:=decide_eq_true c23
               clear c23
               obtain ⟨y302,hy302⟩:∃ y_:List Bool,y_=(List.replicate ((l1.length:Int):Int).toNat false):=⟨_,rfl⟩
               replace H:(octroiref03_Split.l1 k3 a0 x9_3 x10_3 x11_3 y302)=some (r1,r2):=by first|(rw [hy302];with_reducible exact H)|(have H2_:=(Option.bind_some _ _).symm.trans H;rw [hy302];with_reducible exact H2_)|(have H2_:=(Option.bind_some _ _).symm.trans H;with_reducible exact H2_)|with_reducible exact H|(rw [hy302];exact H)|exact H
               have Ny302:=Aside0.mk hy302
               clear hy302
               have H':=Aside0.mk H
               clear H
               go_wp2_with (first|((with_reducible refine gate_dst (N:=66) rfl ?_);refine Kd.R_make Kd.bool _ 4 rfl (N:=66) rfl 63 _ _ rfl (l1.length:Int) rfl rfl Try.underlying63 (.bool false) 1 info4 rfl (by decide) (by omega) false (ok:=fun _=>True) (okp:=fun _=>True) rfl (fun _ hk=>hk) trivial (of_decide_eq_true (by assumption)) (Nat.le_trans (Nat.mul_le_mul_right _ (of_decide_eq_true (by assumption):(l1.length:Int).toNat≤281474976710656)) (by omega)) (Below.refl _ _) (Nat.le_refl _) ?_;intro v303 w24 ho25 hb hg_ hnew_;clear hg_ hnew_;(first|rw [← Ny302.out] at ho25|(simp only [Int.reduceToNat] at ho25;rw [← Ny302.out] at ho25));have n0_:=Aside0.mk (Kd.R_below (by (with_reducible repeat (first|apply Kd.R_alloc|apply Kd.R_drewN|apply Kd.R_drew));exact HO_9.out) hb);have n1_:=Aside0.mk (Kd.S_below (by (with_reducible repeat (first|apply Kd.S_alloc|apply Kd.S_drewN|apply Kd.S_drew));exact HO_10.out) hb);have n2_:=Aside0.mk (Kd.R_lower ho25 (below_size (by repeat (with_reducible first|exact HB.out|apply below_alloc|apply pw_below_drewN|apply below_drew1))));have n3_:=Aside0.mk (below_step (by repeat (with_reducible first|exact HB.out|apply below_alloc|apply pw_below_drewN|apply below_drew1)) hb);clear HO_9;clear HO_10;clear HB;have HO_9:=n0_;have HO_10:=n1_;have HO304:=n2_;have HB:=n3_;clear n0_ n1_ n2_ n3_;clear hb ho25))
               go_loopg [11] k3 (fun kq v11 w'=>∃ (x9_4:List Int) (x11_4:Int) (x15_4:List Bool),v11 = .int .i64 x11_4∧Aside0 (octroiref03_Split.l1 kq a0 x9_4 x10_3 x11_4 x15_4=some (r1,r2))∧Aside0 (kq≤k3)∧Aside0 (Kd.R (Kd.int .i64) 3 w' w.heap.size (fun _=>True) u9 x9_4)∧Aside0 (Kd.S k56 56 w' w.heap.size (fun k_=>some k_≠(u9:Value).ownBlock) u10 x10_3)∧Aside0 (Kd.R Kd.bool 4 w' w.heap.size (fun _=>True) v303 x15_4)∧Aside0 (Below w.heap.size w w'))
               case atStart=>exact ⟨(x9_3),(x11_3),(y302),(by first|rfl|(simp;done)|(simp [*];done)),H',⟨Nat.le_refl _⟩,⟨by (with_reducible repeat (first|apply Kd.R_alloc|apply Kd.R_drewN|apply Kd.R_drew));exact HO_9.out⟩,⟨by (with_reducible repeat (first|apply Kd.S_alloc|apply Kd.S_drewN|apply Kd.S_drew));exact HO_10.out⟩,⟨by (with_reducible repeat (first|apply Kd.R_alloc|apply Kd.R_drewN|apply Kd.R_drew));exact HO304.out⟩,⟨by repeat (with_reducible first|exact HB.out|apply below_alloc|apply pw_below_drewN|apply below_drew1)⟩⟩
               case round =>
                clear H'
                try clear c1
                try clear c2
                try clear p2
                try clear q2
                try clear hx2
                try clear c3
                try clear c6
                try clear p6
                try clear c7
                try clear c9
                try clear c9b0
                try clear c10
                try clear c10b0
                try clear c11
                try clear c11b0
                try clear c13
                try clear c14
                try clear c21
                try clear c22
                try clear c22b0
                try clear c22b1
                try clear c23
                try clear c23b0
                try clear c23b1
                try clear hcz17_0
                try clear hcz17_1
                try clear hcz20_0
                try clear hcz20_1
                try clear hfz17_0
                try clear hfz17_1
                try clear hfz20_0
                try clear hfz20_1
                try clear hx289_0
                try clear p2
                try clear p289
                try clear p6
                try clear q289
                obtain ⟨x9_4,x11_4,x15_4,rfl,HA,HK4,HO_9,HO_10,HO_15,HB⟩:=hrel
                cases gk with
                | zero=>exact absurd HA.out (by simp [octroiref03_Split.l1])
                | succ k4 =>
                 have H:=HA.out
                 clear HA
                 simp only [octroiref03_Split.l1] at H
                 by_cases c26:x11_4>0
                 · rw [if_pos c26] at H
                   have c26b0:decide (0<x11_4)=true:=decide_eq_true c26
                   clear c26
                   have H':=Aside0.mk H
                   clear H
                   go_wp2
                   go_loopg [16,17] k4 (fun kq v16 v17 w'=>∃ (x16_5:Int) (x17_5:Int),v16 = .int .i64 x16_5∧v17 = .int .i64 x17_5∧Aside0 (octroiref03_Split.l2 kq a0 x9_4 x10_3 x11_4 x15_4 x16_5 x17_5=some (r1,r2))∧Aside0 (kq≤k4)∧Aside0 (Kd.R (Kd.int .i64) 3 w' w.heap.size (fun _=>True) u9 x9_4)∧Aside0 (Kd.S k56 56 w' w.heap.size (fun k_=>some k_≠(u9:Value).ownBlock) u10 x10_3)∧Aside0 (Kd.R Kd.bool 4 w' w.heap.size (fun _=>True) v303 x15_4)∧Aside0 (Below w.heap.size w w'))
                   case atStart=>exact ⟨((-1)),(0),(by first|rfl|(simp;done)|(simp [*];done)),(by first|rfl|(simp;done)|(simp [*];done)),H',⟨Nat.le_refl _⟩,⟨by (with_reducible repeat (first|apply Kd.R_alloc|apply Kd.R_drewN|apply Kd.R_drew));exact HO_9.out⟩,⟨by (with_reducible repeat (first|apply Kd.S_alloc|apply Kd.S_drewN|apply Kd.S_drew));exact HO_10.out⟩,⟨by (with_reducible repeat (first|apply Kd.R_alloc|apply Kd.R_drewN|apply Kd.R_drew));exact HO_15.out⟩,⟨by repeat (with_reducible first|exact HB.out|apply below_alloc|apply pw_below_drewN|apply below_drew1)⟩⟩
                   case round =>
                    clear H'
                    try clear c1
                    try clear c2
                    try clear p2
                    try clear q2
                    try clear hx2
                    try clear c3
                    try clear c6
                    try clear p6
                    try clear c7
                    try clear c9
                    try clear c9b0
                    try clear c10
                    try clear c10b0
                    try clear c11
                    try clear c11b0
                    try clear c13
                    try clear c14
                    try clear c21
                    try clear c22
                    try clear c22b0
                    try clear c22b1
                    try clear c23
                    try clear c23b0
                    try clear c23b1
                    try clear c26
                    try clear c26b0
                    try clear hcz17_0
                    try clear hcz17_1
                    try clear hcz20_0
                    try clear hcz20_1
                    try clear hfz17_0
                    try clear hfz17_1
                    try clear hfz20_0
                    try clear hfz20_1
                    try clear hx289_0
                    try clear p2
                    try clear p289
                    try clear p6
                    try clear q2
                    try clear q289
                    obtain ⟨x16_5,x17_5,rfl,rfl,HA,HK5,HO_9,HO_10,HO_15,HB⟩:=hrel
                    cases gk with
                    | zero=>exact absurd HA.out (by simp [octroiref03_Split.l2])
                    | succ k5 =>
                     have H:=HA.out
                     clear HA
                     simp only [octroiref03_Split.l2] at H
                     by_cases c27:x17_5<(x10_3.length:Int)
                     · rw [if_pos c27] at H
                       have c27b0:decide (x17_5<(x10_3.length:Int))=true:=decide_eq_true c27
                       clear c27
                       by_cases c28:0≤x17_5
                       · rw [if_pos c28] at H
                         have c28b0:decide (0≤x17_5)=true:=decide_eq_true c28
                         clear c28
                         by_cases c29:x17_5<(x15_4.length:Int)
                         · rw [if_pos c29] at H
                           have c29b0:decide (x17_5<(x15_4.length:Int))=true:=decide_eq_true c29
                           clear c29
                           obtain ⟨bq30,hbq30⟩:∃ b_:Bool,b_=(rdOf false x15_4 x17_5):=⟨_,rfl⟩
                           replace H:(if bq30=true then (octroiref03_Split.l2 k5 a0 x9_4 x10_3 x11_4 x15_4 x16_5 (wrap64 (x17_5+1))) else (if x16_5<0 then (octroiref03_Split.l2 k5 a0 x9_4 x10_3 x11_4 x15_4 x17_5 (wrap64 (x17_5+1))) else (if 0≤x16_5 then (if x16_5<(x10_3.length:Int) then ((octroiref01_Cmp.f k5 ((rd_T56 x10_3 x17_5).f0) ((rd_T56 x10_3 x17_5).f1) ((rd_T56 x10_3 x16_5).f0) ((rd_T56 x10_3 x16_5).f1)).bind fun t308=>(if t308>0 then (octroiref03_Split.l2 k5 a0 x9_4 x10_3 x11_4 x15_4 x17_5 (wrap64 (x17_5+1))) else (octroiref03_Split.l2 k5 a0 x9_4 x10_3 x11_4 x15_4 x16_5 (wrap64 (x17_5+1))))) else (none)) else (none))))=some (r1,r2):=by rw [← hbq30] at H;exact H
                           have Nbq30:=Aside0.mk hbq30
                           clear hbq30
                           by_cases c31:bq30=true
                           · subst c31
                             have H1:(octroiref03_Split.l2 k5 a0 x9_4 x10_3 x11_4 x15_4 x16_5 (wrap64 (x17_5+1)))=some (r1,r2):=by rw [if_pos rfl] at H;exact H
                             clear H
                             have H:=H1
                             clear H1
                             have H':=Aside0.mk H
                             clear H
                             obtain ⟨Ao32,co32,eo32⟩:=Kd.S_slice HO_10.out
                             subst eo32
                             try go_wp2
                             have n0_:=Aside0.mk (Kd.R_drew HO_9.out)
                             have n1_:=Aside0.mk (Kd.S_drew HO_10.out)
                             have n2_:=Aside0.mk (Kd.R_drew HO_15.out)
                             have n3_:=Aside0.mk (below_drew1 HB.out)
                             clear HO_9
                             clear HO_10
                             clear HO_15
                             clear HB
                             have HO_9:=n0_
                             have HO_10:=n1_
                             have HO_15:=n2_
                             have HB:=n3_
                             clear n0_ n1_ n2_ n3_
                             obtain ⟨Ao34,co34,eo34⟩:=Kd.R_slice HO_15.out
                             (first|subst eo34|(injection eo34 with f1_ f2_ f3_;have f4_:=f1_.symm;have f5_:=f3_.symm;clear f1_ f2_ f3_;subst f4_;subst f5_))
                             have p305:0≤(x17_5:Int):=of_decide_eq_true (by assumption)
                             have q305:x17_5<(x15_4.length:Int):=of_decide_eq_true (by assumption)
                             obtain ⟨ad305,e305,hx305_0⟩:=Kd.at_bool (Kd.R_reads' HO_15.out).2.2 x17_5 p305 q305
                             (try rw [← Nbq30.out] at hx305_0)
                             cases e305
                             replace p305:=eq_true p305
                             replace q305:=eq_true q305
                             refine start_ (n:=21) (S:=fun w'=>w'.cell? (ad305.add (x17_5).toNat)=some (.bool true)) (ds:=[]) #[false,false,false,false,false,false,false,false,false,false,false,false,false,false,false,false,false,false,false,false,false] (by kernel_rfl) rfl rfl (hx305_0) (fun hHeld=>?_);refine with_tabW octroiref03_Split.tab23 octroiref03_Split.bits23 (fun HT_ HW_=>?_)
                             generalize wr.drew=w33 at HO_9 HO_10 HO_15 HB hx305_0 hHeld ⊢
                             refine pure_ (i:=0) (N:=some 75) (v:=?_) (a':=?_) #[true,false,false,false,false,false,false,false,false,false,false,false,false,false,false,false,false,false,false,false,false] rfl rfl (any_of HT_.out (by kernel_rfl)) (fun _ _ _ h=>h) (Or.inl ⟨by rfl,?_⟩) ?_ ?_
                             rotate_left
                             · intro w'
                               go_simp
                               with_reducible rfl
                             rotate_left
                             · simp only [Act.put,List.setIfInBounds_toArray,List.set_cons_zero,List.set_cons_succ,i64_w,i32_w]
                               rfl
                             refine pure_ (i:=1) (N:=some 76) (v:=?_) (a':=?_) #[true,true,false,false,false,false,false,false,false,false,false,false,false,false,false,false,false,false,false,false,false] rfl rfl (any_of HT_.out (by kernel_rfl)) (fun _ _ _ h=>h) (Or.inl ⟨by rfl,?_⟩) ?_ ?_
                             rotate_left
                             · intro w'
                               go_simp
                               with_reducible rfl
                             rotate_left
                             · simp only [Act.put,List.setIfInBounds_toArray,List.set_cons_zero,List.set_cons_succ,i64_w,i32_w]
                               rfl
                             refine pure_ (i:=2) (N:=some 77) (v:=?_) (a':=?_) #[true,true,true,false,false,false,false,false,false,false,false,false,false,false,false,false,false,false,false,false,false] rfl rfl (any_of HT_.out (by kernel_rfl)) (fun _ _ _ h=>h) (Or.inl ⟨by rfl,?_⟩) ?_ ?_
                             rotate_left
                             · intro w'
                               go_simp
                               with_reducible rfl
                             rotate_left
                             · simp only [Act.put,List.setIfInBounds_toArray,List.set_cons_zero,List.set_cons_succ,i64_w,i32_w]
                               rfl
                             refine take_ (i:=3) (N:=some 78) (v:=?_) (a':=?_) #[true,true,true,true,false,false,false,false,false,false,false,false,false,false,false,false,false,false,false,false,false] rfl rfl (take_ofW HT_.out HW_.out (by kernel_rfl)) (fun _ _ _ h=>h) (Or.inl ⟨by rfl,?_⟩) hHeld ?_ ?_
                             rotate_left
                             · intro w' s0
                               go_simp
                               with_reducible rfl
                             rotate_left
                             · simp only [Act.put,List.setIfInBounds_toArray,List.set_cons_zero,List.set_cons_succ,i64_w,i32_w]
                               rfl
                             refine pure_ (i:=4) (N:=some 79) (v:=?_) (a':=?_) #[true,true,true,true,true,false,false,false,false,false,false,false,false,false,false,false,false,false,false,false,false] rfl rfl (any_of HT_.out (by kernel_rfl)) (fun _ _ _ h=>h) (Or.inl ⟨by rfl,?_⟩) ?_ ?_
                             rotate_left
                             · intro w'
                               go_simp
                               with_reducible rfl
                             rotate_left
                             · simp only [Act.put,List.setIfInBounds_toArray,List.set_cons_zero,List.set_cons_succ,i64_w,i32_w]
                               rfl
                             refine pure_ (i:=5) (N:=some 80) (v:=?_) (a':=?_) #[true,true,true,true,true,true,false,false,false,false,false,false,false,false,false,false,false,false,false,false,false] rfl rfl (any_of HT_.out (by kernel_rfl)) (fun _ _ _ h=>h) (Or.inl ⟨by rfl,?_⟩) ?_ ?_
                             rotate_left
                             · intro w'
                               go_simp
                               with_reducible rfl
                             rotate_left
                             · simp only [Act.put,List.setIfInBounds_toArray,List.set_cons_zero,List.set_cons_succ,i64_w,i32_w]
                               rfl
                             refine pure_ (i:=6) (N:=some 81) (v:=undef) (a':=?_) #[true,true,true,true,true,true,true,false,false,false,false,false,false,false,false,false,false,false,false,false,false] rfl rfl (any_of HT_.out (by kernel_rfl)) (fun _ _ _ h=>h) (Or.inr ⟨by rfl,rfl⟩) ?_ ?_
                             rotate_left
                             · simp only [Act.put,List.setIfInBounds_toArray,List.set_cons_zero,List.set_cons_succ,i64_w,i32_w]
                               rfl
                             refine pure_ (i:=7) (N:=some 82) (v:=undef) (a':=?_) #[true,true,true,true,true,true,true,true,false,false,false,false,false,false,false,false,false,false,false,false,false] rfl rfl (any_of HT_.out (by kernel_rfl)) (fun _ _ _ h=>h) (Or.inr ⟨by rfl,rfl⟩) ?_ ?_
                             rotate_left
                             · simp only [Act.put,List.setIfInBounds_toArray,List.set_cons_zero,List.set_cons_succ,i64_w,i32_w]
                               rfl
                             refine pure_ (i:=8) (N:=some 83) (v:=undef) (a':=?_) #[true,true,true,true,true,true,true,true,true,false,false,false,false,false,false,false,false,false,false,false,false] rfl rfl (any_of HT_.out (by kernel_rfl)) (fun _ _ _ h=>h) (Or.inr ⟨by rfl,rfl⟩) ?_ ?_
                             rotate_left
                             · simp only [Act.put,List.setIfInBounds_toArray,List.set_cons_zero,List.set_cons_succ,i64_w,i32_w]
                               rfl
                             refine pure_ (i:=9) (N:=some 84) (v:=undef) (a':=?_) #[true,true,true,true,true,true,true,true,true,true,false,false,false,false,false,false,false,false,false,false,false] rfl rfl (any_of HT_.out (by kernel_rfl)) (fun _ _ _ h=>h) (Or.inr ⟨by rfl,rfl⟩) ?_ ?_
                             rotate_left
                             · simp only [Act.put,List.setIfInBounds_toArray,List.set_cons_zero,List.set_cons_succ,i64_w,i32_w]
                               rfl
                             refine pure_ (i:=10) (N:=some 85) (v:=undef) (a':=?_) #[true,true,true,true,true,true,true,true,true,true,true,false,false,false,false,false,false,false,false,false,false] rfl rfl (any_of HT_.out (by kernel_rfl)) (fun _ _ _ h=>h) (Or.inr ⟨by rfl,rfl⟩) ?_ ?_
                             rotate_left
                             · simp only [Act.put,List.setIfInBounds_toArray,List.set_cons_zero,List.set_cons_succ,i64_w,i32_w]
                               rfl
                             refine pure_ (i:=11) (N:=some 86) (v:=undef) (a':=?_) #[true,true,true,true,true,true,true,true,true,true,true,true,false,false,false,false,false,false,false,false,false] rfl rfl (any_of HT_.out (by kernel_rfl)) (fun _ _ _ h=>h) (Or.inr ⟨by rfl,rfl⟩) ?_ ?_
                             rotate_left
                             · simp only [Act.put,List.setIfInBounds_toArray,List.set_cons_zero,List.set_cons_succ,i64_w,i32_w]
                               rfl
                             refine pure_ (i:=12) (N:=some 87) (v:=undef) (a':=?_) #[true,true,true,true,true,true,true,true,true,true,true,true,true,false,false,false,false,false,false,false,false] rfl rfl (any_of HT_.out (by kernel_rfl)) (fun _ _ _ h=>h) (Or.inr ⟨by rfl,rfl⟩) ?_ ?_
                             rotate_left
                             · simp only [Act.put,List.setIfInBounds_toArray,List.set_cons_zero,List.set_cons_succ,i64_w,i32_w]
                               rfl
                             refine pure_ (i:=13) (N:=some 88) (v:=undef) (a':=?_) #[true,true,true,true,true,true,true,true,true,true,true,true,true,true,false,false,false,false,false,false,false] rfl rfl (any_of HT_.out (by kernel_rfl)) (fun _ _ _ h=>h) (Or.inr ⟨by rfl,rfl⟩) ?_ ?_
                             rotate_left
                             · simp only [Act.put,List.setIfInBounds_toArray,List.set_cons_zero,List.set_cons_succ,i64_w,i32_w]
                               rfl
                             refine pure_ (i:=14) (N:=some 89) (v:=undef) (a':=?_) #[true,true,true,true,true,true,true,true,true,true,true,true,true,true,true,false,false,false,false,false,false] rfl rfl (any_of HT_.out (by kernel_rfl)) (fun _ _ _ h=>h) (Or.inr ⟨by rfl,rfl⟩) ?_ ?_
                             rotate_left
                             · simp only [Act.put,List.setIfInBounds_toArray,List.set_cons_zero,List.set_cons_succ,i64_w,i32_w]
                               rfl
                             refine pure_ (i:=15) (N:=some 90) (v:=undef) (a':=?_) #[true,true,true,true,true,true,true,true,true,true,true,true,true,true,true,true,false,false,false,false,false] rfl rfl (any_of HT_.out (by kernel_rfl)) (fun _ _ _ h=>h) (Or.inr ⟨by rfl,rfl⟩) ?_ ?_
                             rotate_left
                             · simp only [Act.put,List.setIfInBounds_toArray,List.set_cons_zero,List.set_cons_succ,i64_w,i32_w]
                               rfl
                             refine pure_ (i:=16) (N:=some 91) (v:=undef) (a':=?_) #[true,true,true,true,true,true,true,true,true,true,true,true,true,true,true,true,true,false,false,false,false] rfl rfl (any_of HT_.out (by kernel_rfl)) (fun _ _ _ h=>h) (Or.inr ⟨by rfl,rfl⟩) ?_ ?_
                             rotate_left
                             · simp only [Act.put,List.setIfInBounds_toArray,List.set_cons_zero,List.set_cons_succ,i64_w,i32_w]
                               rfl
                             refine pure_ (i:=17) (N:=some 92) (v:=undef) (a':=?_) #[true,true,true,true,true,true,true,true,true,true,true,true,true,true,true,true,true,true,false,false,false] rfl rfl (any_of HT_.out (by kernel_rfl)) (fun _ _ _ h=>h) (Or.inr ⟨by rfl,rfl⟩) ?_ ?_
                             rotate_left
                             · simp only [Act.put,List.setIfInBounds_toArray,List.set_cons_zero,List.set_cons_succ,i64_w,i32_w]
                               rfl
                             refine pure_ (i:=18) (N:=some 93) (v:=undef) (a':=?_) #[true,true,true,true,true,true,true,true,true,true,true,true,true,true,true,true,true,true,true,false,false] rfl rfl (any_of HT_.out (by kernel_rfl)) (fun _ _ _ h=>h) (Or.inr ⟨by rfl,rfl⟩) ?_ ?_
                             rotate_left
                             · simp only [Act.put,List.setIfInBounds_toArray,List.set_cons_zero,List.set_cons_succ,i64_w,i32_w]
                               rfl
                             refine pure_ (i:=19) (N:=some 94) (v:=undef) (a':=?_) #[true,true,true,true,true,true,true,true,true,true,true,true,true,true,true,true,true,true,true,true,false] rfl rfl (any_of HT_.out (by kernel_rfl)) (fun _ _ _ h=>h) (Or.inr ⟨by rfl,rfl⟩) ?_ ?_
                             rotate_left
                             · simp only [Act.put,List.setIfInBounds_toArray,List.set_cons_zero,List.set_cons_succ,i64_w,i32_w]
                               rfl
                             refine pure_ (i:=20) (N:=some 95) (v:=?_) (a':=?_) #[true,true,true,true,true,true,true,true,true,true,true,true,true,true,true,true,true,true,true,true,true] rfl rfl (any_of HT_.out (by kernel_rfl)) (fun _ _ _ h=>h) (Or.inl ⟨by rfl,?_⟩) ?_ ?_
                             rotate_left
                             · intro w'
                               go_simp
                               with_reducible rfl
                             rotate_left
                             · simp only [Act.put,List.setIfInBounds_toArray,List.set_cons_zero,List.set_cons_succ,i64_w,i32_w]
                               rfl
                             refine done_ (done_of HT_.out (by kernel_rfl)) ?_
                             try go_wp2
                             go_roundg k5
                             case measure=>have:=HJ3.out;have:=HJ7.out;have:=HK3.out;have:=HK4.out;have:=HK5.out;omega
                             case rel=>exact ⟨(x16_5),(wrap64 (x17_5+1)),(by first|rfl|(simp;done)|(simp [*];done)),(by first|rfl|(simp;done)|(simp [*];done)),H',⟨by have:=HJ3.out;have:=HJ7.out;have:=HK3.out;have:=HK4.out;have:=HK5.out;omega⟩,⟨by (with_reducible repeat (first|apply Kd.R_alloc|apply Kd.R_drewN|apply Kd.R_drew));exact HO_9.out⟩,⟨by (with_reducible repeat (first|apply Kd.S_alloc|apply Kd.S_drewN|apply Kd.S_drew));exact HO_10.out⟩,⟨by (with_reducible repeat (first|apply Kd.R_alloc|apply Kd.R_drewN|apply Kd.R_drew));exact HO_15.out⟩,⟨by repeat (with_reducible first|exact HB.out|apply below_alloc|apply pw_below_drewN|apply below_drew1)⟩⟩
                           · replace c31:=Bool.eq_false_iff.mpr c31
                             subst c31
                             have H1:(if x16_5<0 then (octroiref03_Split.l2 k5 a0 x9_4 x10_3 x11_4 x15_4 x17_5 (wrap64 (x17_5+1))) else (if 0≤x16_5 then (if x16_5<(x10_3.length:Int) then ((octroiref01_Cmp.f k5 ((rd_T56 x10_3 x17_5).f0) ((rd_T56 x10_3 x17_5).f1) ((rd_T56 x10_3 x16_5).f0) ((rd_T56 x10_3 x16_5).f1)).bind fun t308=>(if t308>0 then (octroiref03_Split.l2 k5 a0 x9_4 x10_3 x11_4 x15_4 x17_5 (wrap64 (x17_5+1))) else (octroiref03_Split.l2 k5 a0 x9_4 x10_3 x11_4 x15_4 x16_5 (wrap64 (x17_5+1))))) else (none)) else (none)))=some (r1,r2):=by rw [if_neg (show ¬ (false=true) by decide)] at H;exact H
                             clear H
                             have H:=H1
                             clear H1
                             by_cases c35:x16_5<0
                             · rw [if_pos c35] at H
                               have c35b0:decide (x16_5<0)=true:=decide_eq_true c35
                               clear c35
                               have H':=Aside0.mk H
                               clear H
                               obtain ⟨Ao36,co36,eo36⟩:=Kd.S_slice HO_10.out
                               subst eo36
                               try go_wp2
                               have n0_:=Aside0.mk (Kd.R_drew HO_9.out)
                               have n1_:=Aside0.mk (Kd.S_drew HO_10.out)
                               have n2_:=Aside0.mk (Kd.R_drew HO_15.out)
                               have n3_:=Aside0.mk (below_drew1 HB.out)
                               clear HO_9
                               clear HO_10
                               clear HO_15
                               clear HB
                               have HO_9:=n0_
                               have HO_10:=n1_
                               have HO_15:=n2_
                               have HB:=n3_
                               clear n0_ n1_ n2_ n3_
                               obtain ⟨Ao38,co38,eo38⟩:=Kd.R_slice HO_15.out
                               (first|subst eo38|(injection eo38 with f1_ f2_ f3_;have f4_:=f1_.symm;have f5_:=f3_.symm;clear f1_ f2_ f3_;subst f4_;subst f5_))
                               have p305:0≤(x17_5:Int):=of_decide_eq_true (by assumption)
                               have q305:x17_5<(x15_4.length:Int):=of_decide_eq_true (by assumption)
                               obtain ⟨ad305,e305,hx305_0⟩:=Kd.at_bool (Kd.R_reads' HO_15.out).2.2 x17_5 p305 q305
                               (try rw [← Nbq30.out] at hx305_0)
                               cases e305
                               replace p305:=eq_true p305
                               replace q305:=eq_true q305
                               refine start_ (n:=21) (S:=fun w'=>w'.cell? (ad305.add (x17_5).toNat)=some (.bool false)) (ds:=[]) #[false,false,false,false,false,false,false,false,false,false,false,false,false,false,false,false,false,false,false,false,false] (by kernel_rfl) rfl rfl (hx305_0) (fun hHeld=>?_);refine with_tabW octroiref03_Split.tab23 octroiref03_Split.bits23 (fun HT_ HW_=>?_)
                               generalize wr.drew=w37 at HO_9 HO_10 HO_15 HB hx305_0 hHeld ⊢
                               refine pure_ (i:=0) (N:=some 75) (v:=?_) (a':=?_) #[true,false,false,false,false,false,false,false,false,false,false,false,false,false,false,false,false,false,false,false,false] rfl rfl (any_of HT_.out (by kernel_rfl)) (fun _ _ _ h=>h) (Or.inl ⟨by rfl,?_⟩) ?_ ?_
                               rotate_left
                               · intro w'
                                 go_simp
                                 with_reducible rfl
                               rotate_left
                               · simp only [Act.put,List.setIfInBounds_toArray,List.set_cons_zero,List.set_cons_succ,i64_w,i32_w]
                                 rfl
                               refine pure_ (i:=1) (N:=some 76) (v:=?_) (a':=?_) #[true,true,false,false,false,false,false,false,false,false,false,false,false,false,false,false,false,false,false,false,false] rfl rfl (any_of HT_.out (by kernel_rfl)) (fun _ _ _ h=>h) (Or.inl ⟨by rfl,?_⟩) ?_ ?_
                               rotate_left
                               · intro w'
                                 go_simp
                                 with_reducible rfl
                               rotate_left
                               · simp only [Act.put,List.setIfInBounds_toArray,List.set_cons_zero,List.set_cons_succ,i64_w,i32_w]
                                 rfl
                               refine pure_ (i:=2) (N:=some 77) (v:=?_) (a':=?_) #[true,true,true,false,false,false,false,false,false,false,false,false,false,false,false,false,false,false,false,false,false] rfl rfl (any_of HT_.out (by kernel_rfl)) (fun _ _ _ h=>h) (Or.inl ⟨by rfl,?_⟩) ?_ ?_
                               rotate_left
                               · intro w'
                                 go_simp
                                 with_reducible rfl
                               rotate_left
                               · simp only [Act.put,List.setIfInBounds_toArray,List.set_cons_zero,List.set_cons_succ,i64_w,i32_w]
                                 rfl
                               refine take_ (i:=3) (N:=some 78) (v:=?_) (a':=?_) #[true,true,true,true,false,false,false,false,false,false,false,false,false,false,false,false,false,false,false,false,false] rfl rfl (take_ofW HT_.out HW_.out (by kernel_rfl)) (fun _ _ _ h=>h) (Or.inl ⟨by rfl,?_⟩) hHeld ?_ ?_
                               rotate_left
                               · intro w' s0
                                 go_simp
                                 with_reducible rfl
                               rotate_left
                               · simp only [Act.put,List.setIfInBounds_toArray,List.set_cons_zero,List.set_cons_succ,i64_w,i32_w]
                                 rfl
                               refine pure_ (i:=4) (N:=some 79) (v:=?_) (a':=?_) #[true,true,true,true,true,false,false,false,false,false,false,false,false,false,false,false,false,false,false,false,false] rfl rfl (any_of HT_.out (by kernel_rfl)) (fun _ _ _ h=>h) (Or.inl ⟨by rfl,?_⟩) ?_ ?_
                               rotate_left
                               · intro w'
                                 go_simp
                                 with_reducible rfl
                               rotate_left
                               · simp only [Act.put,List.setIfInBounds_toArray,List.set_cons_zero,List.set_cons_succ,i64_w,i32_w]
                                 rfl
                               refine pure_ (i:=5) (N:=some 80) (v:=?_) (a':=?_) #[true,true,true,true,true,true,false,false,false,false,false,false,false,false,false,false,false,false,false,false,false] rfl rfl (any_of HT_.out (by kernel_rfl)) (fun _ _ _ h=>h) (Or.inl ⟨by rfl,?_⟩) ?_ ?_
                               rotate_left
                               · intro w'
                                 go_simp
                                 with_reducible rfl
                               rotate_left
                               · simp only [Act.put,List.setIfInBounds_toArray,List.set_cons_zero,List.set_cons_succ,i64_w,i32_w]
                                 rfl
                               refine pure_ (i:=6) (N:=some 81) (v:=?_) (a':=?_) #[true,true,true,true,true,true,true,false,false,false,false,false,false,false,false,false,false,false,false,false,false] rfl rfl (any_of HT_.out (by kernel_rfl)) (fun _ _ _ h=>h) (Or.inl ⟨by rfl,?_⟩) ?_ ?_
                               rotate_left
                               · intro w'
                                 go_simp
                                 with_reducible rfl
                               rotate_left
                               · simp only [Act.put,List.setIfInBounds_toArray,List.set_cons_zero,List.set_cons_succ,i64_w,i32_w]
                                 rfl
                               refine pure_ (i:=7) (N:=some 82) (v:=?_) (a':=?_) #[true,true,true,true,true,true,true,true,false,false,false,false,false,false,false,false,false,false,false,false,false] rfl rfl (any_of HT_.out (by kernel_rfl)) (fun _ _ _ h=>h) (Or.inl ⟨by rfl,?_⟩) ?_ ?_
                               rotate_left
                               · intro w'
                                 go_simp
                                 with_reducible rfl
                               rotate_left
                               · simp only [Act.put,List.setIfInBounds_toArray,List.set_cons_zero,List.set_cons_succ,i64_w,i32_w]
                                 rfl
                               refine pure_ (i:=8) (N:=some 83) (v:=?_) (a':=?_) #[true,true,true,true,true,true,true,true,true,false,false,false,false,false,false,false,false,false,false,false,false] rfl rfl (any_of HT_.out (by kernel_rfl)) (fun _ _ _ h=>h) (Or.inl ⟨by rfl,?_⟩) ?_ ?_
                               rotate_left
                               · intro w'
                                 go_simp
                                 with_reducible rfl
                               rotate_left
                               · simp only [Act.put,List.setIfInBounds_toArray,List.set_cons_zero,List.set_cons_succ,i64_w,i32_w]
                                 rfl
                               refine pure_ (i:=9) (N:=some 84) (v:=undef) (a':=?_) #[true,true,true,true,true,true,true,true,true,true,false,false,false,false,false,false,false,false,false,false,false] rfl rfl (any_of HT_.out (by kernel_rfl)) (fun _ _ _ h=>h) (Or.inr ⟨by rfl,rfl⟩) ?_ ?_
                               rotate_left
                               · simp only [Act.put,List.setIfInBounds_toArray,List.set_cons_zero,List.set_cons_succ,i64_w,i32_w]
                                 rfl
                               refine pure_ (i:=10) (N:=some 85) (v:=undef) (a':=?_) #[true,true,true,true,true,true,true,true,true,true,true,false,false,false,false,false,false,false,false,false,false] rfl rfl (any_of HT_.out (by kernel_rfl)) (fun _ _ _ h=>h) (Or.inr ⟨by rfl,rfl⟩) ?_ ?_
                               rotate_left
                               · simp only [Act.put,List.setIfInBounds_toArray,List.set_cons_zero,List.set_cons_succ,i64_w,i32_w]
                                 rfl
                               refine pure_ (i:=11) (N:=some 86) (v:=undef) (a':=?_) #[true,true,true,true,true,true,true,true,true,true,true,true,false,false,false,false,false,false,false,false,false] rfl rfl (any_of HT_.out (by kernel_rfl)) (fun _ _ _ h=>h) (Or.inr ⟨by rfl,rfl⟩) ?_ ?_
                               rotate_left
                               · simp only [Act.put,List.setIfInBounds_toArray,List.set_cons_zero,List.set_cons_succ,i64_w,i32_w]
                                 rfl
                               refine pure_ (i:=12) (N:=some 87) (v:=undef) (a':=?_) #[true,true,true,true,true,true,true,true,true,true,true,true,true,false,false,false,false,false,false,false,false] rfl rfl (any_of HT_.out (by kernel_rfl)) (fun _ _ _ h=>h) (Or.inr ⟨by rfl,rfl⟩) ?_ ?_
                               rotate_left
                               · simp only [Act.put,List.setIfInBounds_toArray,List.set_cons_zero,List.set_cons_succ,i64_w,i32_w]
                                 rfl
                               refine pure_ (i:=13) (N:=some 88) (v:=undef) (a':=?_) #[true,true,true,true,true,true,true,true,true,true,true,true,true,true,false,false,false,false,false,false,false] rfl rfl (any_of HT_.out (by kernel_rfl)) (fun _ _ _ h=>h) (Or.inr ⟨by rfl,rfl⟩) ?_ ?_
                               rotate_left
                               · simp only [Act.put,List.setIfInBounds_toArray,List.set_cons_zero,List.set_cons_succ,i64_w,i32_w]
                                 rfl
                               refine pure_ (i:=14) (N:=some 89) (v:=undef) (a':=?_) #[true,true,true,true,true,true,true,true,true,true,true,true,true,true,true,false,false,false,false,false,false] rfl rfl (any_of HT_.out (by kernel_rfl)) (fun _ _ _ h=>h) (Or.inr ⟨by rfl,rfl⟩) ?_ ?_
                               rotate_left
                               · simp only [Act.put,List.setIfInBounds_toArray,List.set_cons_zero,List.set_cons_succ,i64_w,i32_w]
                                 rfl
                               refine pure_ (i:=15) (N:=some 90) (v:=undef) (a':=?_) #[true,true,true,true,true,true,true,true,true,true,true,true,true,true,true,true,false,false,false,false,false] rfl rfl (any_of HT_.out (by kernel_rfl)) (fun _ _ _ h=>h) (Or.inr ⟨by rfl,rfl⟩) ?_ ?_
                               rotate_left
                               · simp only [Act.put,List.setIfInBounds_toArray,List.set_cons_zero,List.set_cons_succ,i64_w,i32_w]
                                 rfl
                               refine pure_ (i:=16) (N:=some 91) (v:=undef) (a':=?_) #[true,true,true,true,true,true,true,true,true,true,true,true,true,true,true,true,true,false,false,false,false] rfl rfl (any_of HT_.out (by kernel_rfl)) (fun _ _ _ h=>h) (Or.inr ⟨by rfl,rfl⟩) ?_ ?_
                               rotate_left
                               · simp only [Act.put,List.setIfInBounds_toArray,List.set_cons_zero,List.set_cons_succ,i64_w,i32_w]
                                 rfl
                               refine pure_ (i:=17) (N:=some 92) (v:=undef) (a':=?_) #[true,true,true,true,true,true,true,true,true,true,true,true,true,true,true,true,true,true,false,false,false] rfl rfl (any_of HT_.out (by kernel_rfl)) (fun _ _ _ h=>h) (Or.inr ⟨by rfl,rfl⟩) ?_ ?_
                               rotate_left
                               · simp only [Act.put,List.setIfInBounds_toArray,List.set_cons_zero,List.set_cons_succ,i64_w,i32_w]
                                 rfl
                               refine pure_ (i:=18) (N:=some 93) (v:=undef) (a':=?_) #[true,true,true,true,true,true,true,true,true,true,true,true,true,true,true,true,true,true,true,false,false] rfl rfl (any_of HT_.out (by kernel_rfl)) (fun _ _ _ h=>h) (Or.inr ⟨by rfl,rfl⟩) ?_ ?_
                               rotate_left
                               · simp only [Act.put,List.setIfInBounds_toArray,List.set_cons_zero,List.set_cons_succ,i64_w,i32_w]
                                 rfl
                               refine pure_ (i:=19) (N:=some 94) (v:=?_) (a':=?_) #[true,true,true,true,true,true,true,true,true,true,true,true,true,true,true,true,true,true,true,true,false] rfl rfl (any_of HT_.out (by kernel_rfl)) (fun _ _ _ h=>h) (Or.inl ⟨by rfl,?_⟩) ?_ ?_
                               rotate_left
                               · intro w'
                                 go_simp
                                 with_reducible rfl
                               rotate_left
                               · simp only [Act.put,List.setIfInBounds_toArray,List.set_cons_zero,List.set_cons_succ,i64_w,i32_w]
                                 rfl
                               refine pure_ (i:=20) (N:=some 95) (v:=?_) (a':=?_) #[true,true,true,true,true,true,true,true,true,true,true,true,true,true,true,true,true,true,true,true,true] rfl rfl (any_of HT_.out (by kernel_rfl)) (fun _ _ _ h=>h) (Or.inl ⟨by rfl,?_⟩) ?_ ?_
                               rotate_left
                               · intro w'
                                 go_simp
                                 with_reducible rfl
                               rotate_left
                               · simp only [Act.put,List.setIfInBounds_toArray,List.set_cons_zero,List.set_cons_succ,i64_w,i32_w]
                                 rfl
                               refine done_ (done_of HT_.out (by kernel_rfl)) ?_
                               try go_wp2
                               go_roundg k5
                               case measure=>have:=HJ3.out;have:=HJ7.out;have:=HK3.out;have:=HK4.out;have:=HK5.out;omega
                               case rel=>exact ⟨(x17_5),(wrap64 (x17_5+1)),(by first|rfl|(simp;done)|(simp [*];done)),(by first|rfl|(simp;done)|(simp [*];done)),H',⟨by have:=HJ3.out;have:=HJ7.out;have:=HK3.out;have:=HK4.out;have:=HK5.out;omega⟩,⟨by (with_reducible repeat (first|apply Kd.R_alloc|apply Kd.R_drewN|apply Kd.R_drew));exact HO_9.out⟩,⟨by (with_reducible repeat (first|apply Kd.S_alloc|apply Kd.S_drewN|apply Kd.S_drew));exact HO_10.out⟩,⟨by (with_reducible repeat (first|apply Kd.R_alloc|apply Kd.R_drewN|apply Kd.R_drew));exact HO_15.out⟩,⟨by repeat (with_reducible first|exact HB.out|apply below_alloc|apply pw_below_drewN|apply below_drew1)⟩⟩
                             · rw [if_neg c35] at H
                               have c35b0:decide (x16_5<0)=false:=decide_eq_false c35
                               clear c35
                               by_cases c39:0≤x16_5
                               · rw [if_pos c39] at H
                                 have c39b0:decide (0≤x16_5)=true:=decide_eq_true c39
                                 clear c39
                                 by_cases c40:x16_5<(x10_3.length:Int)
                                 · rw [if_pos c40] at H
                                   have c40b0:decide (x16_5<(x10_3.length:Int))=true:=decide_eq_true c40
                                   clear c40
                                   replace H:=Option.bind_eq_some_iff.mp H
                                   obtain ⟨t308,A410,H⟩:=H
                                   replace H:(if t308>0 then (octroiref03_Split.l2 k5 a0 x9_4 x10_3 x11_4 x15_4 x17_5 (wrap64 (x17_5+1))) else (octroiref03_Split.l2 k5 a0 x9_4 x10_3 x11_4 x15_4 x16_5 (wrap64 (x17_5+1))))=some (r1,r2):=H
                                   have A41:=Aside0.mk A410
                                   clear A410
                                   by_cases c42:t308>0
                                   · rw [if_pos c42] at H
                                     have c42b0:decide (0<t308)=true:=decide_eq_true c42
                                     clear c42
                                     have H':=Aside0.mk H
                                     clear H
                                     obtain ⟨Ao43,co43,eo43⟩:=Kd.S_slice HO_10.out
                                     subst eo43
                                     try go_wp2
                                     have n0_:=Aside0.mk (Kd.R_drew HO_9.out)
                                     have n1_:=Aside0.mk (Kd.S_drew HO_10.out)
                                     have n2_:=Aside0.mk (Kd.R_drew HO_15.out)
                                     have n3_:=Aside0.mk (below_drew1 HB.out)
                                     clear HO_9
                                     clear HO_10
                                     clear HO_15
                                     clear HB
                                     have HO_9:=n0_
                                     have HO_10:=n1_
                                     have HO_15:=n2_
                                     have HB:=n3_
                                     clear n0_ n1_ n2_ n3_
                                     obtain ⟨Ao45,co45,eo45⟩:=Kd.R_slice HO_15.out
                                     (first|subst eo45|(injection eo45 with f1_ f2_ f3_;have f4_:=f1_.symm;have f5_:=f3_.symm;clear f1_ f2_ f3_;subst f4_;subst f5_))
                                     have p305:0≤(x17_5:Int):=of_decide_eq_true (by assumption)
                                     have q305:x17_5<(x15_4.length:Int):=of_decide_eq_true (by assumption)
                                     obtain ⟨ad305,e305,hx305_0⟩:=Kd.at_bool (Kd.R_reads' HO_15.out).2.2 x17_5 p305 q305
                                     (try rw [← Nbq30.out] at hx305_0)
                                     cases e305
                                     replace p305:=eq_true p305
                                     replace q305:=eq_true q305
                                     have p306:0≤(x17_5:Int):=of_decide_eq_true (by assumption)
                                     have q306:x17_5<(x10_3.length:Int):=of_decide_eq_true (by assumption)
                                     obtain ⟨ad306,A306_1,c306_1,e306,hx306_0,hx306_1,hl306_1,hi306_1⟩:=at_T56 (Kd.S_reads' HO_10.out).2.2 x17_5 p306 q306
                                     (try rw [← Nbq30.out] at hx306_0)
                                     cases e306
                                     obtain ⟨ce306,hce306,hMe306,hcc306⟩:=Kd.S_get HO_10.out z56 x17_5 p306 (by first|exact q306|exact of_decide_eq_true (by assumption)|(have e_:=(Kd.S_reads' HO_10.out).1;omega))
                                     obtain ⟨ve306_1,rfl,ge306_1⟩:=k56_openM hMe306
                                     have hv306_1:=hcc306 1 _ rfl
                                     rw [add_field _ _ 1 (by omega)] at hv306_1
                                     replace hv306_1:=Option.some.inj (hv306_1.symm.trans hx306_1)
                                     rw [hv306_1] at ge306_1
                                     have HL306_1:=Aside0.mk (show Kd.R (Kd.int .i64) 3 _ _ _ _ ((rd_T56 x10_3 x17_5).f1) from ge306_1)
                                     clear hv306_1 ge306_1
                                     clear hcc306 hce306
                                     have HR306_1:=Aside0.mk hi306_1
                                     have HC306_1:=Aside0.mk hl306_1
                                     clear hi306_1 hl306_1
                                     replace p306:=eq_true p306
                                     replace q306:=eq_true q306
                                     have p307:0≤(x16_5:Int):=of_decide_eq_true (by assumption)
                                     have q307:x16_5<(x10_3.length:Int):=of_decide_eq_true (by assumption)
                                     obtain ⟨ad307,A307_1,c307_1,e307,hx307_0,hx307_1,hl307_1,hi307_1⟩:=at_T56 (Kd.S_reads' HO_10.out).2.2 x16_5 p307 q307
                                     (try rw [← Nbq30.out] at hx307_0)
                                     obtain rfl:ad306=ad307:=(by injection e307)
                                     obtain ⟨ce307,hce307,hMe307,hcc307⟩:=Kd.S_get HO_10.out z56 x16_5 p307 (by first|exact q307|exact of_decide_eq_true (by assumption)|(have e_:=(Kd.S_reads' HO_10.out).1;omega))
                                     obtain ⟨ve307_1,rfl,ge307_1⟩:=k56_openM hMe307
                                     have hv307_1:=hcc307 1 _ rfl
                                     rw [add_field _ _ 1 (by omega)] at hv307_1
                                     replace hv307_1:=Option.some.inj (hv307_1.symm.trans hx307_1)
                                     rw [hv307_1] at ge307_1
                                     have HL307_1:=Aside0.mk (show Kd.R (Kd.int .i64) 3 _ _ _ _ ((rd_T56 x10_3 x16_5).f1) from ge307_1)
                                     clear hv307_1 ge307_1
                                     clear hcc307 hce307
                                     have HR307_1:=Aside0.mk hi307_1
                                     have HC307_1:=Aside0.mk hl307_1
                                     clear hi307_1 hl307_1
                                     replace p307:=eq_true p307
                                     replace q307:=eq_true q307
                                     refine start_ (n:=21) (S:=fun w'=>w'.cell? (ad305.add (x17_5).toNat)=some (.bool false)∧w'.cell? (ad306.add ((x17_5).toNat * 2))=some (.bool ((rd_T56 x10_3 x17_5).f0))∧w'.cell? ⟨(ad306.add ((x17_5).toNat * 2)).block,(ad306.add ((x17_5).toNat * 2)).off+1,none⟩=some (.slice A306_1 ((rd_T56 x10_3 x17_5).f1).length c306_1)∧w'.cell? (ad306.add ((x16_5).toNat * 2))=some (.bool ((rd_T56 x10_3 x16_5).f0))∧w'.cell? ⟨(ad306.add ((x16_5).toNat * 2)).block,(ad306.add ((x16_5).toNat * 2)).off+1,none⟩=some (.slice A307_1 ((rd_T56 x10_3 x16_5).f1).length c307_1)) (ds:=[]) #[false,false,false,false,false,false,false,false,false,false,false,false,false,false,false,false,false,false,false,false,false] (by kernel_rfl) rfl rfl ⟨hx305_0,hx306_0,hx306_1,hx307_0,hx307_1⟩ (fun hHeld=>?_);refine with_tabW octroiref03_Split.tab23 octroiref03_Split.bits23 (fun HT_ HW_=>?_)
                                     generalize wr.drew=w44 at HO_9 HO_10 HO_15 HB HL306_1 HL307_1 HR306_1 HR307_1 hx305_0 hx306_0 hx306_1 hx307_0 hx307_1 hHeld ⊢
                                     refine pure_ (i:=0) (N:=some 75) (v:=?_) (a':=?_) #[true,false,false,false,false,false,false,false,false,false,false,false,false,false,false,false,false,false,false,false,false] rfl rfl (any_of HT_.out (by kernel_rfl)) (fun _ _ _ h=>h) (Or.inl ⟨by rfl,?_⟩) ?_ ?_
                                     rotate_left
                                     · intro w'
                                       go_simp
                                       with_reducible rfl
                                     rotate_left
                                     · simp only [Act.put,List.setIfInBounds_toArray,List.set_cons_zero,List.set_cons_succ,i64_w,i32_w]
                                       rfl
                                     refine pure_ (i:=1) (N:=some 76) (v:=?_) (a':=?_) #[true,true,false,false,false,false,false,false,false,false,false,false,false,false,false,false,false,false,false,false,false] rfl rfl (any_of HT_.out (by kernel_rfl)) (fun _ _ _ h=>h) (Or.inl ⟨by rfl,?_⟩) ?_ ?_
                                     rotate_left
                                     · intro w'
                                       go_simp
                                       with_reducible rfl
                                     rotate_left
                                     · simp only [Act.put,List.setIfInBounds_toArray,List.set_cons_zero,List.set_cons_succ,i64_w,i32_w]
                                       rfl
                                     refine pure_ (i:=2) (N:=some 77) (v:=?_) (a':=?_) #[true,true,true,false,false,false,false,false,false,false,false,false,false,false,false,false,false,false,false,false,false] rfl rfl (any_of HT_.out (by kernel_rfl)) (fun _ _ _ h=>h) (Or.inl ⟨by rfl,?_⟩) ?_ ?_
                                     rotate_left
                                     · intro w'
                                       go_simp
                                       with_reducible rfl
                                     rotate_left
                                     · simp only [Act.put,List.setIfInBounds_toArray,List.set_cons_zero,List.set_cons_succ,i64_w,i32_w]
                                       rfl
                                     refine take_ (i:=3) (N:=some 78) (v:=?_) (a':=?_) #[true,true,true,true,false,false,false,false,false,false,false,false,false,false,false,false,false,false,false,false,false] rfl rfl (take_ofW HT_.out HW_.out (by kernel_rfl)) (fun _ _ _ h=>h) (Or.inl ⟨by rfl,?_⟩) hHeld ?_ ?_
                                     rotate_left
                                     · rintro w' ⟨s0,s1,s2,s3,s4⟩
                                       go_simp
                                       with_reducible rfl
                                     rotate_left
                                     · simp only [Act.put,List.setIfInBounds_toArray,List.set_cons_zero,List.set_cons_succ,i64_w,i32_w]
                                       rfl
                                     refine pure_ (i:=4) (N:=some 79) (v:=?_) (a':=?_) #[true,true,true,true,true,false,false,false,false,false,false,false,false,false,false,false,false,false,false,false,false] rfl rfl (any_of HT_.out (by kernel_rfl)) (fun _ _ _ h=>h) (Or.inl ⟨by rfl,?_⟩) ?_ ?_
                                     rotate_left
                                     · intro w'
                                       go_simp
                                       with_reducible rfl
                                     rotate_left
                                     · simp only [Act.put,List.setIfInBounds_toArray,List.set_cons_zero,List.set_cons_succ,i64_w,i32_w]
                                       rfl
                                     refine pure_ (i:=5) (N:=some 80) (v:=?_) (a':=?_) #[true,true,true,true,true,true,false,false,false,false,false,false,false,false,false,false,false,false,false,false,false] rfl rfl (any_of HT_.out (by kernel_rfl)) (fun _ _ _ h=>h) (Or.inl ⟨by rfl,?_⟩) ?_ ?_
                                     rotate_left
                                     · intro w'
                                       go_simp
                                       with_reducible rfl
                                     rotate_left
                                     · simp only [Act.put,List.setIfInBounds_toArray,List.set_cons_zero,List.set_cons_succ,i64_w,i32_w]
                                       rfl
                                     refine pure_ (i:=6) (N:=some 81) (v:=?_) (a':=?_) #[true,true,true,true,true,true,true,false,false,false,false,false,false,false,false,false,false,false,false,false,false] rfl rfl (any_of HT_.out (by kernel_rfl)) (fun _ _ _ h=>h) (Or.inl ⟨by rfl,?_⟩) ?_ ?_
                                     rotate_left
                                     · intro w'
                                       go_simp
                                       with_reducible rfl
                                     rotate_left
                                     · simp only [Act.put,List.setIfInBounds_toArray,List.set_cons_zero,List.set_cons_succ,i64_w,i32_w]
                                       rfl
                                     refine pure_ (i:=7) (N:=some 82) (v:=?_) (a':=?_) #[true,true,true,true,true,true,true,true,false,false,false,false,false,false,false,false,false,false,false,false,false] rfl rfl (any_of HT_.out (by kernel_rfl)) (fun _ _ _ h=>h) (Or.inl ⟨by rfl,?_⟩) ?_ ?_
                                     rotate_left
                                     · intro w'
                                       go_simp
                                       with_reducible rfl
                                     rotate_left
                                     · simp only [Act.put,List.setIfInBounds_toArray,List.set_cons_zero,List.set_cons_succ,i64_w,i32_w]
                                       rfl
                                     refine pure_ (i:=8) (N:=some 83) (v:=?_) (a':=?_) #[true,true,true,true,true,true,true,true,true,false,false,false,false,false,false,false,false,false,false,false,false] rfl rfl (any_of HT_.out (by kernel_rfl)) (fun _ _ _ h=>h) (Or.inl ⟨by rfl,?_⟩) ?_ ?_
                                     rotate_left
                                     · intro w'
                                       go_simp
                                       with_reducible rfl
                                     rotate_left
                                     · simp only [Act.put,List.setIfInBounds_toArray,List.set_cons_zero,List.set_cons_succ,i64_w,i32_w]
                                       rfl
                                     refine pure_ (i:=9) (N:=some 84) (v:=?_) (a':=?_) #[true,true,true,true,true,true,true,true,true,true,false,false,false,false,false,false,false,false,false,false,false] rfl rfl (any_of HT_.out (by kernel_rfl)) (fun _ _ _ h=>h) (Or.inl ⟨by rfl,?_⟩) ?_ ?_
                                     rotate_left
                                     · intro w'
                                       go_simp
                                       with_reducible rfl
                                     rotate_left
                                     · simp only [Act.put,List.setIfInBounds_toArray,List.set_cons_zero,List.set_cons_succ,i64_w,i32_w]
                                       rfl
                                     refine pure_ (i:=10) (N:=some 85) (v:=?_) (a':=?_) #[true,true,true,true,true,true,true,true,true,true,true,false,false,false,false,false,false,false,false,false,false] rfl rfl (any_of HT_.out (by kernel_rfl)) (fun _ _ _ h=>h) (Or.inl ⟨by rfl,?_⟩) ?_ ?_
                                     rotate_left
                                     · intro w'
                                       go_simp
                                       with_reducible rfl
                                     rotate_left
                                     · simp only [Act.put,List.setIfInBounds_toArray,List.set_cons_zero,List.set_cons_succ,i64_w,i32_w]
                                       rfl
                                     refine pure_ (i:=11) (N:=some 86) (v:=?_) (a':=?_) #[true,true,true,true,true,true,true,true,true,true,true,true,false,false,false,false,false,false,false,false,false] rfl rfl (any_of HT_.out (by kernel_rfl)) (fun _ _ _ h=>h) (Or.inl ⟨by rfl,?_⟩) ?_ ?_
                                     rotate_left
                                     · intro w'
                                       go_simp
                                       with_reducible rfl
                                     rotate_left
                                     · simp only [Act.put,List.setIfInBounds_toArray,List.set_cons_zero,List.set_cons_succ,i64_w,i32_w]
                                       rfl
                                     refine pure_ (i:=13) (N:=some 88) (v:=?_) (a':=?_) #[true,true,true,true,true,true,true,true,true,true,true,true,false,true,false,false,false,false,false,false,false] rfl rfl (any_of HT_.out (by kernel_rfl)) (fun _ _ _ h=>h) (Or.inl ⟨by rfl,?_⟩) ?_ ?_
                                     rotate_left
                                     · intro w'
                                       go_simp
                                       with_reducible rfl
                                     rotate_left
                                     · simp only [Act.put,List.setIfInBounds_toArray,List.set_cons_zero,List.set_cons_succ,i64_w,i32_w]
                                       rfl
                                     refine pure_ (i:=14) (N:=some 89) (v:=?_) (a':=?_) #[true,true,true,true,true,true,true,true,true,true,true,true,false,true,true,false,false,false,false,false,false] rfl rfl (any_of HT_.out (by kernel_rfl)) (fun _ _ _ h=>h) (Or.inl ⟨by rfl,?_⟩) ?_ ?_
                                     rotate_left
                                     · intro w'
                                       go_simp
                                       with_reducible rfl
                                     rotate_left
                                     · simp only [Act.put,List.setIfInBounds_toArray,List.set_cons_zero,List.set_cons_succ,i64_w,i32_w]
                                       rfl
                                     refine pure_ (i:=15) (N:=some 90) (v:=?_) (a':=?_) #[true,true,true,true,true,true,true,true,true,true,true,true,false,true,true,true,false,false,false,false,false] rfl rfl (any_of HT_.out (by kernel_rfl)) (fun _ _ _ h=>h) (Or.inl ⟨by rfl,?_⟩) ?_ ?_
                                     rotate_left
                                     · intro w'
                                       go_simp
                                       with_reducible rfl
                                     rotate_left
                                     · simp only [Act.put,List.setIfInBounds_toArray,List.set_cons_zero,List.set_cons_succ,i64_w,i32_w]
                                       rfl
                                     refine take_ (i:=12) (N:=some 87) (v:=?_) (a':=?_) #[true,true,true,true,true,true,true,true,true,true,true,true,true,true,true,true,false,false,false,false,false] rfl rfl (take_ofW HT_.out HW_.out (by kernel_rfl)) (fun _ _ _ h=>h) (Or.inl ⟨by rfl,?_⟩) hHeld ?_ ?_
                                     rotate_left
                                     · rintro w' ⟨s0,s1,s2,s3,s4⟩
                                       go_simp
                                       with_reducible rfl
                                     rotate_left
                                     · simp only [Act.put,List.setIfInBounds_toArray,List.set_cons_zero,List.set_cons_succ,i64_w,i32_w]
                                       rfl
                                     refine take_ (i:=16) (N:=some 91) (v:=?_) (a':=?_) #[true,true,true,true,true,true,true,true,true,true,true,true,true,true,true,true,true,false,false,false,false] rfl rfl (take_ofW HT_.out HW_.out (by kernel_rfl)) (fun _ _ _ h=>h) (Or.inl ⟨by rfl,?_⟩) hHeld ?_ ?_
                                     rotate_left
                                     · rintro w' ⟨s0,s1,s2,s3,s4⟩
                                       go_simp
                                       with_reducible rfl
                                     rotate_left
                                     · simp only [Act.put,List.setIfInBounds_toArray,List.set_cons_zero,List.set_cons_succ,i64_w,i32_w]
                                       rfl
                                     refine one_ (i:=17) (N:=some 92) #[true,true,true,true,true,true,true,true,true,true,true,true,true,true,true,true,true,true,false,false,false] rfl rfl (one_of HT_.out (by kernel_rfl)) (by decide) (fun K hK=>?_)
                                     refine goes_ Try.func33 (by kernel_rfl) rfl #[.agg #[.bool ((rd_T56 x10_3 x17_5).f0),.slice A306_1 ((rd_T56 x10_3 x17_5).f1).length c306_1],.agg #[.bool ((rd_T56 x10_3 x16_5).f0),.slice A307_1 ((rd_T56 x10_3 x16_5).f1).length c307_1]] (by rfl) rfl rfl (by (try simp only [List.map_toArray,List.map_cons,List.map_nil]);first|done|rfl|(simp only [List.length_drop,List.length_take];rfl)) ?_
                                     with_reducible refine (octroiref01_Cmp.calls k5 ((rd_T56 x10_3 x17_5).f0) _ _ ((rd_T56 x10_3 x17_5).f1) ((rd_T56 x10_3 x16_5).f0) _ _ ((rd_T56 x10_3 x16_5).f1) t308 _ ?side1 ?side2 ?side3 ?side4 A41.out).mono ?_
                                     (case side1=>repeat (first|exact (by repeat (first|(with_reducible exact HR306_1.out)|(with_reducible refine Kd.C_alloc ?_ _)|(with_reducible refine Kd.C_drewN ?_ _)|(with_reducible refine Kd.C_drew ?_)|exact HR306_1.out))|(with_reducible refine Kd.C_alloc ?_ _)|(with_reducible refine Kd.C_drewN ?_ _)|(with_reducible refine Kd.C_drew ?_)))
                                     (case side2=>exact HC306_1.out)
                                     (case side3=>repeat (first|exact (by repeat (first|(with_reducible exact HR307_1.out)|(with_reducible refine Kd.C_alloc ?_ _)|(with_reducible refine Kd.C_drewN ?_ _)|(with_reducible refine Kd.C_drew ?_)|exact HR307_1.out))|(with_reducible refine Kd.C_alloc ?_ _)|(with_reducible refine Kd.C_drewN ?_ _)|(with_reducible refine Kd.C_drew ?_)))
                                     (case side4=>exact HC307_1.out)
                                     rintro e w46 ⟨rfl,hb⟩
                                     have HS0_:=(hb.cell (World.block_lt_of_cell? _ _ (hHeld.1))).trans (hHeld.1)
                                     have HS1_:=(hb.cell (World.block_lt_of_cell? _ _ (hHeld.2.1))).trans (hHeld.2.1)
                                     have HS2_:=(hb.cell (World.block_lt_of_cell? _ _ (hHeld.2.2.1))).trans (hHeld.2.2.1)
                                     have HS3_:=(hb.cell (World.block_lt_of_cell? _ _ (hHeld.2.2.2.1))).trans (hHeld.2.2.2.1)
                                     have HS4_:=(hb.cell (World.block_lt_of_cell? _ _ (hHeld.2.2.2.2))).trans (hHeld.2.2.2.2)
                                     refine ⟨_,rfl,?_⟩
                                     have n0_:=Aside0.mk (Kd.R_below (by (with_reducible repeat (first|apply Kd.R_alloc|apply Kd.R_drewN|apply Kd.R_drew));exact HO_9.out) hb)
                                     have n1_:=Aside0.mk (Kd.S_below (by (with_reducible repeat (first|apply Kd.S_alloc|apply Kd.S_drewN|apply Kd.S_drew));exact HO_10.out) hb)
                                     have n2_:=Aside0.mk (Kd.R_below (by (with_reducible repeat (first|apply Kd.R_alloc|apply Kd.R_drewN|apply Kd.R_drew));exact HO_15.out) hb)
                                     have n3_:=Aside0.mk (Kd.R_below (by (with_reducible repeat (first|apply Kd.R_alloc|apply Kd.R_drewN|apply Kd.R_drew));exact HL306_1.out) hb)
                                     have n4_:=Aside0.mk (Kd.R_below (by (with_reducible repeat (first|apply Kd.R_alloc|apply Kd.R_drewN|apply Kd.R_drew));exact HL307_1.out) hb)
                                     have n5_:=Aside0.mk (Kd.C_below (by repeat (first|(with_reducible exact HR306_1.out)|(with_reducible refine Kd.C_alloc ?_ _)|(with_reducible refine Kd.C_drewN ?_ _)|(with_reducible refine Kd.C_drew ?_)|exact HR306_1.out)) hb)
                                     have n6_:=Aside0.mk (Kd.C_below (by repeat (first|(with_reducible exact HR307_1.out)|(with_reducible refine Kd.C_alloc ?_ _)|(with_reducible refine Kd.C_drewN ?_ _)|(with_reducible refine Kd.C_drew ?_)|exact HR307_1.out)) hb)
                                     have n7_:=Aside0.mk (below_step (by repeat (with_reducible first|exact HB.out|apply below_alloc|apply pw_below_drewN|apply below_drew1)) hb)
                                     clear HO_9
                                     clear HO_10
                                     clear HO_15
                                     clear HL306_1
                                     clear HL307_1
                                     clear HR306_1
                                     clear HR307_1
                                     clear HB
                                     have HO_9:=n0_
                                     have HO_10:=n1_
                                     have HO_15:=n2_
                                     have HL306_1:=n3_
                                     have HL307_1:=n4_
                                     have HR306_1:=n5_
                                     have HR307_1:=n6_
                                     have HB:=n7_
                                     clear n0_ n1_ n2_ n3_ n4_ n5_ n6_ n7_
                                     (try clear hb)
                                     (try clear hb2)
                                     (try clear hk)
                                     (try clear hi)
                                     refine hK.out _ _ ⟨HS0_,HS1_,HS2_,HS3_,HS4_⟩ (fun hHeld=>?_)
                                     clear hK K
                                     refine norm_ (a':=?_) ?_ ?_
                                     rotate_left
                                     · show Act.put _ (some 92) _=_
                                       simp only [Act.put,List.setIfInBounds_toArray,List.set_cons_zero,List.set_cons_succ,i64_w,i32_w]
                                       rfl
                                     refine pure_ (i:=18) (N:=some 93) (v:=?_) (a':=?_) #[true,true,true,true,true,true,true,true,true,true,true,true,true,true,true,true,true,true,true,false,false] rfl rfl (any_of HT_.out (by kernel_rfl)) (fun _ _ _ h=>h) (Or.inl ⟨by rfl,?_⟩) ?_ ?_
                                     rotate_left
                                     · intro w'
                                       go_simp
                                       with_reducible rfl
                                     rotate_left
                                     · simp only [Act.put,List.setIfInBounds_toArray,List.set_cons_zero,List.set_cons_succ,i64_w,i32_w]
                                       rfl
                                     refine pure_ (i:=19) (N:=some 94) (v:=?_) (a':=?_) #[true,true,true,true,true,true,true,true,true,true,true,true,true,true,true,true,true,true,true,true,false] rfl rfl (any_of HT_.out (by kernel_rfl)) (fun _ _ _ h=>h) (Or.inl ⟨by rfl,?_⟩) ?_ ?_
                                     rotate_left
                                     · intro w'
                                       go_simp
                                       with_reducible rfl
                                     rotate_left
                                     · simp only [Act.put,List.setIfInBounds_toArray,List.set_cons_zero,List.set_cons_succ,i64_w,i32_w]
                                       rfl
                                     refine pure_ (i:=20) (N:=some 95) (v:=?_) (a':=?_) #[true,true,true,true,true,true,true,true,true,true,true,true,true,true,true,true,true,true,true,true,true] rfl rfl (any_of HT_.out (by kernel_rfl)) (fun _ _ _ h=>h) (Or.inl ⟨by rfl,?_⟩) ?_ ?_
                                     rotate_left
                                     · intro w'
                                       go_simp
                                       with_reducible rfl
                                     rotate_left
                                     · simp only [Act.put,List.setIfInBounds_toArray,List.set_cons_zero,List.set_cons_succ,i64_w,i32_w]
                                       rfl
                                     refine done_ (done_of HT_.out (by kernel_rfl)) ?_
                                     try go_wp2
                                     go_roundg k5
                                     case measure=>have:=HJ3.out;have:=HJ7.out;have:=HK3.out;have:=HK4.out;have:=HK5.out;omega
                                     case rel=>exact ⟨(x17_5),(wrap64 (x17_5+1)),(by first|rfl|(simp;done)|(simp [*];done)),(by first|rfl|(simp;done)|(simp [*];done)),H',⟨by have:=HJ3.out;have:=HJ7.out;have:=HK3.out;have:=HK4.out;have:=HK5.out;omega⟩,⟨by (with_reducible repeat (first|apply Kd.R_alloc|apply Kd.R_drewN|apply Kd.R_drew));exact HO_9.out⟩,⟨by (with_reducible repeat (first|apply Kd.S_alloc|apply Kd.S_drewN|apply Kd.S_drew));exact HO_10.out⟩,⟨by (with_reducible repeat (first|apply Kd.R_alloc|apply Kd.R_drewN|apply Kd.R_drew));exact HO_15.out⟩,⟨by repeat (with_reducible first|exact HB.out|apply below_alloc|apply pw_below_drewN|apply below_drew1)⟩⟩
                                   · rw [if_neg c42] at H
                                     have c42b0:decide (0<t308)=false:=decide_eq_false c42
                                     clear c42
                                     have H':=Aside0.mk H
                                     clear H
                                     obtain ⟨Ao47,co47,eo47⟩:=Kd.S_slice HO_10.out
                                     subst eo47
                                     try go_wp2
                                     have n0_:=Aside0.mk (Kd.R_drew HO_9.out)
                                     have n1_:=Aside0.mk (Kd.S_drew HO_10.out)
                                     have n2_:=Aside0.mk (Kd.R_drew HO_15.out)
                                     have n3_:=Aside0.mk (below_drew1 HB.out)
                                     clear HO_9
                                     clear HO_10
                                     clear HO_15
                                     clear HB
                                     have HO_9:=n0_
                                     have HO_10:=n1_
                                     have HO_15:=n2_
                                     have HB:=n3_
                                     clear n0_ n1_ n2_ n3_
                                     obtain ⟨Ao49,co49,eo49⟩:=Kd.R_slice HO_15.out
                                     (first|subst eo49|(injection eo49 with f1_ f2_ f3_;have f4_:=f1_.symm;have f5_:=f3_.symm;clear f1_ f2_ f3_;subst f4_;subst f5_))
                                     have p305:0≤(x17_5:Int):=of_decide_eq_true (by assumption)
                                     have q305:x17_5<(x15_4.length:Int):=of_decide_eq_true (by assumption)
                                     obtain ⟨ad305,e305,hx305_0⟩:=Kd.at_bool (Kd.R_reads' HO_15.out).2.2 x17_5 p305 q305
                                     (try rw [← Nbq30.out] at hx305_0)
                                     cases e305
                                     replace p305:=eq_true p305
                                     replace q305:=eq_true q305
                                     have p306:0≤(x17_5:Int):=of_decide_eq_true (by assumption)
                                     have q306:x17_5<(x10_3.length:Int):=of_decide_eq_true (by assumption)
                                     obtain ⟨ad306,A306_1,c306_1,e306,hx306_0,hx306_1,hl306_1,hi306_1⟩:=at_T56 (Kd.S_reads' HO_10.out).2.2 x17_5 p306 q306
                                     (try rw [← Nbq30.out] at hx306_0)
                                     cases e306
                                     obtain ⟨ce306,hce306,hMe306,hcc306⟩:=Kd.S_get HO_10.out z56 x17_5 p306 (by first|exact q306|exact of_decide_eq_true (by assumption)|(have e_:=(Kd.S_reads' HO_10.out).1;omega))
                                     obtain ⟨ve306_1,rfl,ge306_1⟩:=k56_openM hMe306
                                     have hv306_1:=hcc306 1 _ rfl
                                     rw [add_field _ _ 1 (by omega)] at hv306_1
                                     replace hv306_1:=Option.some.inj (hv306_1.symm.trans hx306_1)
                                     rw [hv306_1] at ge306_1
                                     have HL306_1:=Aside0.mk (show Kd.R (Kd.int .i64) 3 _ _ _ _ ((rd_T56 x10_3 x17_5).f1) from ge306_1)
                                     clear hv306_1 ge306_1
                                     clear hcc306 hce306
                                     have HR306_1:=Aside0.mk hi306_1
                                     have HC306_1:=Aside0.mk hl306_1
                                     clear hi306_1 hl306_1
                                     replace p306:=eq_true p306
                                     replace q306:=eq_true q306
                                     have p307:0≤(x16_5:Int):=of_decide_eq_true (by assumption)
                                     have q307:x16_5<(x10_3.length:Int):=of_decide_eq_true (by assumption)
                                     obtain ⟨ad307,A307_1,c307_1,e307,hx307_0,hx307_1,hl307_1,hi307_1⟩:=at_T56 (Kd.S_reads' HO_10.out).2.2 x16_5 p307 q307
                                     (try rw [← Nbq30.out] at hx307_0)
                                     obtain rfl:ad306=ad307:=(by injection e307)
                                     obtain ⟨ce307,hce307,hMe307,hcc307⟩:=Kd.S_get HO_10.out z56 x16_5 p307 (by first|exact q307|exact of_decide_eq_true (by assumption)|(have e_:=(Kd.S_reads' HO_10.out).1;omega))
                                     obtain ⟨ve307_1,rfl,ge307_1⟩:=k56_openM hMe307
                                     have hv307_1:=hcc307 1 _ rfl
                                     rw [add_field _ _ 1 (by omega)] at hv307_1
                                     replace hv307_1:=Option.some.inj (hv307_1.symm.trans hx307_1)
                                     rw [hv307_1] at ge307_1
                                     have HL307_1:=Aside0.mk (show Kd.R (Kd.int .i64) 3 _ _ _ _ ((rd_T56 x10_3 x16_5).f1) from ge307_1)
                                     clear hv307_1 ge307_1
                                     clear hcc307 hce307
                                     have HR307_1:=Aside0.mk hi307_1
                                     have HC307_1:=Aside0.mk hl307_1
                                     clear hi307_1 hl307_1
                                     replace p307:=eq_true p307
                                     replace q307:=eq_true q307
                                     refine start_ (n:=21) (S:=fun w'=>w'.cell? (ad305.add (x17_5).toNat)=some (.bool false)∧w'.cell? (ad306.add ((x17_5).toNat * 2))=some (.bool ((rd_T56 x10_3 x17_5).f0))∧w'.cell? ⟨(ad306.add ((x17_5).toNat * 2)).block,(ad306.add ((x17_5).toNat * 2)).off+1,none⟩=some (.slice A306_1 ((rd_T56 x10_3 x17_5).f1).length c306_1)∧w'.cell? (ad306.add ((x16_5).toNat * 2))=some (.bool ((rd_T56 x10_3 x16_5).f0))∧w'.cell? ⟨(ad306.add ((x16_5).toNat * 2)).block,(ad306.add ((x16_5).toNat * 2)).off+1,none⟩=some (.slice A307_1 ((rd_T56 x10_3 x16_5).f1).length c307_1)) (ds:=[]) #[false,false,false,false,false,false,false,false,false,false,false,false,false,false,false,false,false,false,false,false,false] (by kernel_rfl) rfl rfl ⟨hx305_0,hx306_0,hx306_1,hx307_0,hx307_1⟩ (fun hHeld=>?_);refine with_tabW octroiref03_Split.tab23 octroiref03_Split.bits23 (fun HT_ HW_=>?_)
                                     generalize wr.drew=w48 at HO_9 HO_10 HO_15 HB HL306_1 HL307_1 HR306_1 HR307_1 hx305_0 hx306_0 hx306_1 hx307_0 hx307_1 hHeld ⊢
                                     refine pure_ (i:=0) (N:=some 75) (v:=?_) (a':=?_) #[true,false,false,false,false,false,false,false,false,false,false,false,false,false,false,false,false,false,false,false,false] rfl rfl (any_of HT_.out (by kernel_rfl)) (fun _ _ _ h=>h) (Or.inl ⟨by rfl,?_⟩) ?_ ?_
                                     rotate_left
                                     · intro w'
                                       go_simp
                                       with_reducible rfl
                                     rotate_left
                                     · simp only [Act.put,List.setIfInBounds_toArray,List.set_cons_zero,List.set_cons_succ,i64_w,i32_w]
                                       rfl
                                     refine pure_ (i:=1) (N:=some 76) (v:=?_) (a':=?_) #[true,true,false,false,false,false,false,false,false,false,false,false,false,false,false,false,false,false,false,false,false] rfl rfl (any_of HT_.out (by kernel_rfl)) (fun _ _ _ h=>h) (Or.inl ⟨by rfl,?_⟩) ?_ ?_
                                     rotate_left
                                     · intro w'
                                       go_simp
                                       with_reducible rfl
                                     rotate_left
                                     · simp only [Act.put,List.setIfInBounds_toArray,List.set_cons_zero,List.set_cons_succ,i64_w,i32_w]
                                       rfl
                                     refine pure_ (i:=2) (N:=some 77) (v:=?_) (a':=?_) #[true,true,true,false,false,false,false,false,false,false,false,false,false,false,false,false,false,false,false,false,false] rfl rfl (any_of HT_.out (by kernel_rfl)) (fun _ _ _ h=>h) (Or.inl ⟨by rfl,?_⟩) ?_ ?_
                                     rotate_left
                                     · intro w'
                                       go_simp
                                       with_reducible rfl
                                     rotate_left
                                     · simp only [Act.put,List.setIfInBounds_toArray,List.set_cons_zero,List.set_cons_succ,i64_w,i32_w]
                                       rfl
                                     refine take_ (i:=3) (N:=some 78) (v:=?_) (a':=?_) #[true,true,true,true,false,false,false,false,false,false,false,false,false,false,false,false,false,false,false,false,false] rfl rfl (take_ofW HT_.out HW_.out (by kernel_rfl)) (fun _ _ _ h=>h) (Or.inl ⟨by rfl,?_⟩) hHeld ?_ ?_
                                     rotate_left
                                     · rintro w' ⟨s0,s1,s2,s3,s4⟩
                                       go_simp
                                       with_reducible rfl
                                     rotate_left
                                     · simp only [Act.put,List.setIfInBounds_toArray,List.set_cons_zero,List.set_cons_succ,i64_w,i32_w]
                                       rfl
                                     refine pure_ (i:=4) (N:=some 79) (v:=?_) (a':=?_) #[true,true,true,true,true,false,false,false,false,false,false,false,false,false,false,false,false,false,false,false,false] rfl rfl (any_of HT_.out (by kernel_rfl)) (fun _ _ _ h=>h) (Or.inl ⟨by rfl,?_⟩) ?_ ?_
                                     rotate_left
                                     · intro w'
                                       go_simp
                                       with_reducible rfl
                                     rotate_left
                                     · simp only [Act.put,List.setIfInBounds_toArray,List.set_cons_zero,List.set_cons_succ,i64_w,i32_w]
                                       rfl
                                     refine pure_ (i:=5) (N:=some 80) (v:=?_) (a':=?_) #[true,true,true,true,true,true,false,false,false,false,false,false,false,false,false,false,false,false,false,false,false] rfl rfl (any_of HT_.out (by kernel_rfl)) (fun _ _ _ h=>h) (Or.inl ⟨by rfl,?_⟩) ?_ ?_
                                     rotate_left
                                     · intro w'
                                       go_simp
                                       with_reducible rfl
                                     rotate_left
                                     · simp only [Act.put,List.setIfInBounds_toArray,List.set_cons_zero,List.set_cons_succ,i64_w,i32_w]
                                       rfl
                                     refine pure_ (i:=6) (N:=some 81) (v:=?_) (a':=?_) #[true,true,true,true,true,true,true,false,false,false,false,false,false,false,false,false,false,false,false,false,false] rfl rfl (any_of HT_.out (by kernel_rfl)) (fun _ _ _ h=>h) (Or.inl ⟨by rfl,?_⟩) ?_ ?_
                                     rotate_left
                                     · intro w'
                                       go_simp
                                       with_reducible rfl
                                     rotate_left
                                     · simp only [Act.put,List.setIfInBounds_toArray,List.set_cons_zero,List.set_cons_succ,i64_w,i32_w]
                                       rfl
                                     refine pure_ (i:=7) (N:=some 82) (v:=?_) (a':=?_) #[true,true,true,true,true,true,true,true,false,false,false,false,false,false,false,false,false,false,false,false,false] rfl rfl (any_of HT_.out (by kernel_rfl)) (fun _ _ _ h=>h) (Or.inl ⟨by rfl,?_⟩) ?_ ?_
                                     rotate_left
                                     · intro w'
                                       go_simp
                                       with_reducible rfl
                                     rotate_left
                                     · simp only [Act.put,List.setIfInBounds_toArray,List.set_cons_zero,List.set_cons_succ,i64_w,i32_w]
                                       rfl
                                     refine pure_ (i:=8) (N:=some 83) (v:=?_) (a':=?_) #[true,true,true,true,true,true,true,true,true,false,false,false,false,false,false,false,false,false,false,false,false] rfl rfl (any_of HT_.out (by kernel_rfl)) (fun _ _ _ h=>h) (Or.inl ⟨by rfl,?_⟩) ?_ ?_
                                     rotate_left
                                     · intro w'
                                       go_simp
                                       with_reducible rfl
                                     rotate_left
                                     · simp only [Act.put,List.setIfInBounds_toArray,List.set_cons_zero,List.set_cons_succ,i64_w,i32_w]
                                       rfl
                                     refine pure_ (i:=9) (N:=some 84) (v:=?_) (a':=?_) #[true,true,true,true,true,true,true,true,true,true,false,false,false,false,false,false,false,false,false,false,false] rfl rfl (any_of HT_.out (by kernel_rfl)) (fun _ _ _ h=>h) (Or.inl ⟨by rfl,?_⟩) ?_ ?_
                                     rotate_left
                                     · intro w'
                                       go_simp
                                       with_reducible rfl
                                     rotate_left
                                     · simp only [Act.put,List.setIfInBounds_toArray,List.set_cons_zero,List.set_cons_succ,i64_w,i32_w]
                                       rfl
                                     refine pure_ (i:=10) (N:=some 85) (v:=?_) (a':=?_) #[true,true,true,true,true,true,true,true,true,true,true,false,false,false,false,false,false,false,false,false,false] rfl rfl (any_of HT_.out (by kernel_rfl)) (fun _ _ _ h=>h) (Or.inl ⟨by rfl,?_⟩) ?_ ?_
                                     rotate_left
                                     · intro w'
                                       go_simp
                                       with_reducible rfl
                                     rotate_left
                                     · simp only [Act.put,List.setIfInBounds_toArray,List.set_cons_zero,List.set_cons_succ,i64_w,i32_w]
                                       rfl
                                     refine pure_ (i:=11) (N:=some 86) (v:=?_) (a':=?_) #[true,true,true,true,true,true,true,true,true,true,true,true,false,false,false,false,false,false,false,false,false] rfl rfl (any_of HT_.out (by kernel_rfl)) (fun _ _ _ h=>h) (Or.inl ⟨by rfl,?_⟩) ?_ ?_
                                     rotate_left
                                     · intro w'
                                       go_simp
                                       with_reducible rfl
                                     rotate_left
                                     · simp only [Act.put,List.setIfInBounds_toArray,List.set_cons_zero,List.set_cons_succ,i64_w,i32_w]
                                       rfl
                                     refine pure_ (i:=13) (N:=some 88) (v:=?_) (a':=?_) #[true,true,true,true,true,true,true,true,true,true,true,true,false,true,false,false,false,false,false,false,false] rfl rfl (any_of HT_.out (by kernel_rfl)) (fun _ _ _ h=>h) (Or.inl ⟨by rfl,?_⟩) ?_ ?_
                                     rotate_left
                                     · intro w'
                                       go_simp
                                       with_reducible rfl
                                     rotate_left
                                     · simp only [Act.put,List.setIfInBounds_toArray,List.set_cons_zero,List.set_cons_succ,i64_w,i32_w]
                                       rfl
                                     refine pure_ (i:=14) (N:=some 89) (v:=?_) (a':=?_) #[true,true,true,true,true,true,true,true,true,true,true,true,false,true,true,false,false,false,false,false,false] rfl rfl (any_of HT_.out (by kernel_rfl)) (fun _ _ _ h=>h) (Or.inl ⟨by rfl,?_⟩) ?_ ?_
                                     rotate_left
                                     · intro w'
                                       go_simp
                                       with_reducible rfl
                                     rotate_left
                                     · simp only [Act.put,List.setIfInBounds_toArray,List.set_cons_zero,List.set_cons_succ,i64_w,i32_w]
                                       rfl
                                     refine pure_ (i:=15) (N:=some 90) (v:=?_) (a':=?_) #[true,true,true,true,true,true,true,true,true,true,true,true,false,true,true,true,false,false,false,false,false] rfl rfl (any_of HT_.out (by kernel_rfl)) (fun _ _ _ h=>h) (Or.inl ⟨by rfl,?_⟩) ?_ ?_
                                     rotate_left
                                     · intro w'
                                       go_simp
                                       with_reducible rfl
                                     rotate_left
                                     · simp only [Act.put,List.setIfInBounds_toArray,List.set_cons_zero,List.set_cons_succ,i64_w,i32_w]
                                       rfl
                                     refine take_ (i:=12) (N:=some 87) (v:=?_) (a':=?_) #[true,true,true,true,true,true,true,true,true,true,true,true,true,true,true,true,false,false,false,false,false] rfl rfl (take_ofW HT_.out HW_.out (by kernel_rfl)) (fun _ _ _ h=>h) (Or.inl ⟨by rfl,?_⟩) hHeld ?_ ?_
                                     rotate_left
                                     · rintro w' ⟨s0,s1,s2,s3,s4⟩
                                       go_simp
                                       with_reducible rfl
                                     rotate_left
                                     · simp only [Act.put,List.setIfInBounds_toArray,List.set_cons_zero,List.set_cons_succ,i64_w,i32_w]
                                       rfl
                                     refine take_ (i:=16) (N:=some 91) (v:=?_) (a':=?_) #[true,true,true,true,true,true,true,true,true,true,true,true,true,true,true,true,true,false,false,false,false] rfl rfl (take_ofW HT_.out HW_.out (by kernel_rfl)) (fun _ _ _ h=>h) (Or.inl ⟨by rfl,?_⟩) hHeld ?_ ?_
                                     rotate_left
                                     · rintro w' ⟨s0,s1,s2,s3,s4⟩
                                       go_simp
                                       with_reducible rfl
                                     rotate_left
                                     · simp only [Act.put,List.setIfInBounds_toArray,List.set_cons_zero,List.set_cons_succ,i64_w,i32_w]
                                       rfl
                                     refine one_ (i:=17) (N:=some 92) #[true,true,true,true,true,true,true,true,true,true,true,true,true,true,true,true,true,true,false,false,false] rfl rfl (one_of HT_.out (by kernel_rfl)) (by decide) (fun K hK=>?_)
                                     refine goes_ Try.func33 (by kernel_rfl) rfl #[.agg #[.bool ((rd_T56 x10_3 x17_5).f0),.slice A306_1 ((rd_T56 x10_3 x17_5).f1).length c306_1],.agg #[.bool ((rd_T56 x10_3 x16_5).f0),.slice A307_1 ((rd_T56 x10_3 x16_5).f1).length c307_1]] (by rfl) rfl rfl (by (try simp only [List.map_toArray,List.map_cons,List.map_nil]);first|done|rfl|(simp only [List.length_drop,List.length_take];rfl)) ?_
                                     with_reducible refine (octroiref01_Cmp.calls k5 ((rd_T56 x10_3 x17_5).f0) _ _ ((rd_T56 x10_3 x17_5).f1) ((rd_T56 x10_3 x16_5).f0) _ _ ((rd_T56 x10_3 x16_5).f1) t308 _ ?side1 ?side2 ?side3 ?side4 A41.out).mono ?_
                                     (case side1=>repeat (first|exact (by repeat (first|(with_reducible exact HR306_1.out)|(with_reducible refine Kd.C_alloc ?_ _)|(with_reducible refine Kd.C_drewN ?_ _)|(with_reducible refine Kd.C_drew ?_)|exact HR306_1.out))|(with_reducible refine Kd.C_alloc ?_ _)|(with_reducible refine Kd.C_drewN ?_ _)|(with_reducible refine Kd.C_drew ?_)))
                                     (case side2=>exact HC306_1.out)
                                     (case side3=>repeat (first|exact (by repeat (first|(with_reducible exact HR307_1.out)|(with_reducible refine Kd.C_alloc ?_ _)|(with_reducible refine Kd.C_drewN ?_ _)|(with_reducible refine Kd.C_drew ?_)|exact HR307_1.out))|(with_reducible refine Kd.C_alloc ?_ _)|(with_reducible refine Kd.C_drewN ?_ _)|(with_reducible refine Kd.C_drew ?_)))
                                     (case side4=>exact HC307_1.out)
                                     rintro e w50 ⟨rfl,hb⟩
                                     have HS0_:=(hb.cell (World.block_lt_of_cell? _ _ (hHeld.1))).trans (hHeld.1)
                                     have HS1_:=(hb.cell (World.block_lt_of_cell? _ _ (hHeld.2.1))).trans (hHeld.2.1)
                                     have HS2_:=(hb.cell (World.block_lt_of_cell? _ _ (hHeld.2.2.1))).trans (hHeld.2.2.1)
                                     have HS3_:=(hb.cell (World.block_lt_of_cell? _ _ (hHeld.2.2.2.1))).trans (hHeld.2.2.2.1)
                                     have HS4_:=(hb.cell (World.block_lt_of_cell? _ _ (hHeld.2.2.2.2))).trans (hHeld.2.2.2.2)
                                     refine ⟨_,rfl,?_⟩
                                     have n0_:=Aside0.mk (Kd.R_below (by (with_reducible repeat (first|apply Kd.R_alloc|apply Kd.R_drewN|apply Kd.R_drew));exact HO_9.out) hb)
                                     have n1_:=Aside0.mk (Kd.S_below (by (with_reducible repeat (first|apply Kd.S_alloc|apply Kd.S_drewN|apply Kd.S_drew));exact HO_10.out) hb)
                                     have n2_:=Aside0.mk (Kd.R_below (by (with_reducible repeat (first|apply Kd.R_alloc|apply Kd.R_drewN|apply Kd.R_drew));exact HO_15.out) hb)
                                     have n3_:=Aside0.mk (Kd.R_below (by (with_reducible repeat (first|apply Kd.R_alloc|apply Kd.R_drewN|apply Kd.R_drew));exact HL306_1.out) hb)
                                     have n4_:=Aside0.mk (Kd.R_below (by (with_reducible repeat (first|apply Kd.R_alloc|apply Kd.R_drewN|apply Kd.R_drew));exact HL307_1.out) hb)
                                     have n5_:=Aside0.mk (Kd.C_below (by repeat (first|(with_reducible exact HR306_1.out)|(with_reducible refine Kd.C_alloc ?_ _)|(with_reducible refine Kd.C_drewN ?_ _)|(with_reducible refine Kd.C_drew ?_)|exact HR306_1.out)) hb)
                                     have n6_:=Aside0.mk (Kd.C_below (by repeat (first|(with_reducible exact HR307_1.out)|(with_reducible refine Kd.C_alloc ?_ _)|(with_reducible refine Kd.C_drewN ?_ _)|(with_reducible refine Kd.C_drew ?_)|exact HR307_1.out)) hb)
                                     have n7_:=Aside0.mk (below_step (by repeat (with_reducible first|exact HB.out|apply below_alloc|apply pw_below_drewN|apply below_drew1)) hb)
                                     clear HO_9
                                     clear HO_10
                                     clear HO_15
                                     clear HL306_1
                                     clear HL307_1
                                     clear HR306_1
                                     clear HR307_1
                                     clear HB
                                     have HO_9:=n0_
                                     have HO_10:=n1_
                                     have HO_15:=n2_
                                     have HL306_1:=n3_
                                     have HL307_1:=n4_
                                     have HR306_1:=n5_
                                     have HR307_1:=n6_
                                     have HB:=n7_
                                     clear n0_ n1_ n2_ n3_ n4_ n5_ n6_ n7_
                                     (try clear hb)
                                     (try clear hb2)
                                     (try clear hk)
                                     (try clear hi)
                                     refine hK.out _ _ ⟨HS0_,HS1_,HS2_,HS3_,HS4_⟩ (fun hHeld=>?_)
                                     clear hK K
                                     refine norm_ (a':=?_) ?_ ?_
                                     rotate_left
                                     · show Act.put _ (some 92) _=_
                                       simp only [Act.put,List.setIfInBounds_toArray,List.set_cons_zero,List.set_cons_succ,i64_w,i32_w]
                                       rfl
                                     refine pure_ (i:=18) (N:=some 93) (v:=?_) (a':=?_) #[true,true,true,true,true,true,true,true,true,true,true,true,true,true,true,true,true,true,true,false,false] rfl rfl (any_of HT_.out (by kernel_rfl)) (fun _ _ _ h=>h) (Or.inl ⟨by rfl,?_⟩) ?_ ?_
                                     rotate_left
                                     · intro w'
                                       go_simp
                                       with_reducible rfl
                                     rotate_left
                                     · simp only [Act.put,List.setIfInBounds_toArray,List.set_cons_zero,List.set_cons_succ,i64_w,i32_w]
                                       rfl
                                     refine pure_ (i:=19) (N:=some 94) (v:=?_) (a':=?_) #[true,true,true,true,true,true,true,true,true,true,true,true,true,true,true,true,true,true,true,true,false] rfl rfl (any_of HT_.out (by kernel_rfl)) (fun _ _ _ h=>h) (Or.inl ⟨by rfl,?_⟩) ?_ ?_
                                     rotate_left
                                     · intro w'
                                       go_simp
                                       with_reducible rfl
                                     rotate_left
                                     · simp only [Act.put,List.setIfInBounds_toArray,List.set_cons_zero,List.set_cons_succ,i64_w,i32_w]
                                       rfl
                                     refine pure_ (i:=20) (N:=some 95) (v:=?_) (a':=?_) #[true,true,true,true,true,true,true,true,true,true,true,true,true,true,true,true,true,true,true,true,true] rfl rfl (any_of HT_.out (by kernel_rfl)) (fun _ _ _ h=>h) (Or.inl ⟨by rfl,?_⟩) ?_ ?_
                                     rotate_left
                                     · intro w'
                                       go_simp
                                       with_reducible rfl
                                     rotate_left
                                     · simp only [Act.put,List.setIfInBounds_toArray,List.set_cons_zero,List.set_cons_succ,i64_w,i32_w]
                                       rfl
                                     refine done_ (done_of HT_.out (by kernel_rfl)) ?_
                                     try go_wp2
                                     go_roundg k5
                                     case measure=>have:=HJ3.out;have:=HJ7.out;have:=HK3.out;have:=HK4.out;have:=HK5.out;omega
                                     case rel=>exact ⟨(x16_5),(wrap64 (x17_5+1)),(by first|rfl|(simp;done)|(simp [*];done)),(by first|rfl|(simp;done)|(simp [*];done)),H',⟨by have:=HJ3.out;have:=HJ7.out;have:=HK3.out;have:=HK4.out;have:=HK5.out;omega⟩,⟨by (with_reducible repeat (first|apply Kd.R_alloc|apply Kd.R_drewN|apply Kd.R_drew));exact HO_9.out⟩,⟨by (with_reducible repeat (first|apply Kd.S_alloc|apply Kd.S_drewN|apply Kd.S_drew));exact HO_10.out⟩,⟨by (with_reducible repeat (first|apply Kd.R_alloc|apply Kd.R_drewN|apply Kd.R_drew));exact HO_15.out⟩,⟨by repeat (with_reducible first|exact HB.out|apply below_alloc|apply pw_below_drewN|apply below_drew1)⟩⟩
                                 · rw [if_neg c40] at H
                                   exact absurd H (by simp)
                               · rw [if_neg c39] at H
                                 exact absurd H (by simp)
                         · rw [if_neg c29] at H
                           exact absurd H (by simp)
                       · rw [if_neg c28] at H
                         exact absurd H (by simp)
                     · rw [if_neg c27] at H
                       have c27b0:decide (x17_5<(x10_3.length:Int))=false:=decide_eq_false c27
                       clear c27
                       by_cases c51:0≤x16_5
                       · rw [if_pos c51] at H
                         have c51b0:decide (0≤x16_5)=true:=decide_eq_true c51
                         clear c51
                         by_cases c52:x16_5<(x15_4.length:Int)
                         · rw [if_pos c52] at H
                           have c52b0:decide (x16_5<(x15_4.length:Int))=true:=decide_eq_true c52
                           clear c52
                           obtain ⟨y309,hy309⟩:∃ y_:List Bool,y_=(x15_4.set (x16_5:Int).toNat true):=⟨_,rfl⟩
                           replace H:(if x16_5<(x9_4.length:Int) then (octroiref03_Split.l1 k5 a0 (x9_4.set (x16_5:Int).toNat (wrap64 ((rd x9_4 x16_5)+1))) x10_3 (wrap64 (x11_4 - 1)) y309) else (none))=some (r1,r2):=by first|(rw [hy309];with_reducible exact H)|(have H2_:=(Option.bind_some _ _).symm.trans H;rw [hy309];with_reducible exact H2_)|(have H2_:=(Option.bind_some _ _).symm.trans H;with_reducible exact H2_)|with_reducible exact H|(rw [hy309];exact H)|exact H
                           have Ny309:=Aside0.mk hy309
                           clear hy309
                           by_cases c54:x16_5<(x9_4.length:Int)
                           · rw [if_pos c54] at H
                             have c54b0:decide (x16_5<(x9_4.length:Int))=true:=decide_eq_true c54
                             clear c54
                             obtain ⟨y311,hy311⟩:∃ y_:List Int,y_=(x9_4.set (x16_5:Int).toNat (wrap64 ((rd x9_4 x16_5)+1))):=⟨_,rfl⟩
                             replace H:(octroiref03_Split.l1 k5 a0 y311 x10_3 (wrap64 (x11_4 - 1)) y309)=some (r1,r2):=by first|(rw [hy311];with_reducible exact H)|(have H2_:=(Option.bind_some _ _).symm.trans H;rw [hy311];with_reducible exact H2_)|(have H2_:=(Option.bind_some _ _).symm.trans H;with_reducible exact H2_)|with_reducible exact H|(rw [hy311];exact H)|exact H
                             have Ny311:=Aside0.mk hy311
                             clear hy311
                             have H':=Aside0.mk H
                             clear H
                             obtain ⟨Ao56,co56,eo56⟩:=Kd.S_slice HO_10.out
                             subst eo56
                             have p53:0≤(x16_5:Int):=of_decide_eq_true (by assumption)
                             have q53:(x16_5:Int)<((x15_4.length:Int):Int):=of_decide_eq_true (by assumption)
                             obtain ⟨go53,co53,eo53,gb53,gl53,cl53,HG53⟩:=Kd.R_form HO_15.out (by omega)
                             (first|cases eo53|(injection eo53 with ea_ en_ ec_;(first|subst ea_|(injection ea_ with ea_;subst ea_));subst ec_;clear en_))
                             have GB53:=Aside0.mk gb53
                             have GG53:=Aside0.mk HG53
                             clear gb53 gl53 HG53
                             obtain ⟨hx53_0,hf53_0⟩:=Kd.R_celln false HO_15.out (x16_5:Int) p53 q53
                             replace p53:=eq_true p53
                             replace q53:=eq_true q53
                             have HP57:=Kd.R_putg HO_15.out (x16_5:Int) true
                             go_wp2_with (first|((with_reducible refine gate_store (t:=4) (p:=99) rfl ?_);refine store_event (t:=4) (p:=99) (v:=?vo_w58) (w1:=(wr.setCell ⟨go53,(x16_5:Int).toNat,none⟩ (.bool true))) ?hg ?ho ?hn ?hr ?_;(case ho=>rfl);(case hg=>rfl);(case hn=>rfl);(case hr=>first|(go_simp;done)|(go_simp;rfl));intro w58 hw;have hg:wr.grownBy w58 (some go53):=(by rw [hw];exact HP57.2);have hp_:Kd.R Kd.bool 4 w58 w.heap.size (fun _=>True) (.slice (some ⟨go53,0,none⟩) x15_4.length co53) y309:=(by rw [hw,Ny309.out];exact HP57.1);clear HP57;have n0_:=Aside0.mk (Kd.R_over' (v:=(.slice (some ⟨go53,0,none⟩) x15_4.length co53)) (by (with_reducible repeat (first|apply Kd.R_alloc|apply Kd.R_drewN|apply Kd.R_drew));exact HO_9.out) (Kd.R_typed HO_15.out) (by decide) hg);have n1_:=Aside0.mk (Kd.S_over' (v:=(.slice (some ⟨go53,0,none⟩) x15_4.length co53)) (by (with_reducible repeat (first|apply Kd.S_alloc|apply Kd.S_drewN|apply Kd.S_drew));exact HO_10.out) (Kd.R_typed HO_15.out) (by decide) hg);have n2_:=Aside0.mk (hp_);have n3_:=Aside0.mk ((by rw [hw];exact below_set (HB.out) GB53.out:Below w.heap.size w w58));clear HO_9;clear HO_10;clear HO_15;clear HB;have HO_9:=n0_;have HO_10:=n1_;have HO_15:=n2_;have HB:=n3_;clear n0_ n1_ n2_ n3_;clear hg hw hp_;obtain ⟨Ao59,co59,eo59⟩:=Kd.R_slice HO_9.out;subst eo59;have p310:0≤(x16_5:Int):=of_decide_eq_true (by assumption);have q310:x16_5<(x9_4.length:Int):=of_decide_eq_true (by assumption);obtain ⟨ad310,e310,hx310_0⟩:=Kd.at_int (Kd.R_reads' HO_9.out).2.2 x16_5 p310 q310;cases e310;replace p310:=eq_true p310;replace q310:=eq_true q310;have p55:0≤(x16_5:Int):=of_decide_eq_true (by assumption);have q55:(x16_5:Int)<((x9_4.length:Int):Int):=of_decide_eq_true (by assumption);obtain ⟨go55,co55,eo55,gb55,gl55,cl55,HG55⟩:=Kd.R_form HO_9.out (by omega);(first|cases eo55|(injection eo55 with ea_ en_ ec_;(first|subst ea_|(injection ea_ with ea_;subst ea_));subst ec_;clear en_));have GB55:=Aside0.mk gb55;have GG55:=Aside0.mk HG55;clear gb55 gl55 HG55;(first|simp only [add_plain] at hx310_0|skip);obtain ⟨hx55_0,hf55_0⟩:=Kd.R_celln 0 HO_9.out (x16_5:Int) p55 q55;replace p55:=eq_true p55;replace q55:=eq_true q55;obtain ⟨hy60_,hz60_⟩:=Kd.R_celln 0 HO_9.out (x16_5:Int) (of_decide_eq_true (by assumption)) (of_decide_eq_true (by assumption));have HP60:=Kd.R_putg HO_9.out (x16_5:Int) (wrap64 ((rd x9_4 x16_5)+1)))|((with_reducible refine gate_store (t:=3) (p:=107) rfl ?_);refine store_event (t:=3) (p:=107) (v:=?vo_w61) (w1:=(w58.setCell ⟨go55,(x16_5:Int).toNat,none⟩ (.int .i64 (wrap64 ((rd x9_4 x16_5)+1))))) ?hg ?ho ?hn ?hr ?_;(case ho=>rfl);(case hg=>rfl);(case hn=>rfl);(case hr=>first|(go_simp;done)|(go_simp;rfl));intro w61 hw;have hg:w58.grownBy w61 (some go55):=(by rw [hw];exact HP60.2);have hp_:Kd.R (Kd.int .i64) 3 w61 w.heap.size (fun _=>True) (.slice (some ⟨go55,0,none⟩) x9_4.length co59) y311:=(by rw [hw,Ny311.out];exact HP60.1);clear HP60;have n0_:=Aside0.mk (hp_);have n1_:=Aside0.mk (Kd.S_after (v:=(.slice (some ⟨go55,0,none⟩) x9_4.length co59)) (v1:=(.slice (some ⟨go55,0,none⟩) x9_4.length co59)) (ok:=(fun _=>True)) (by (with_reducible repeat (first|apply Kd.S_alloc|apply Kd.S_drewN|apply Kd.S_drew));exact Kd.S_mono HO_10.out (fun _ hk=>⟨trivial,hk⟩)) hg (.inl rfl));have n2_:=Aside0.mk (Kd.R_over' (v:=(.slice (some ⟨go55,0,none⟩) x9_4.length co59)) (by (with_reducible repeat (first|apply Kd.R_alloc|apply Kd.R_drewN|apply Kd.R_drew));exact HO_15.out) (Kd.R_typed HO_9.out) (by decide) hg);have n3_:=Aside0.mk ((by rw [hw];exact below_set (HB.out) GB55.out:Below w.heap.size w w61));clear HO_9;clear HO_10;clear HO_15;clear HB;have HO_9:=n0_;have HO_10:=n1_;have HO_15:=n2_;have HB:=n3_;clear n0_ n1_ n2_ n3_;clear hg hw hp_))
                             go_roundg k5
                             case measure=>have:=HJ3.out;have:=HJ7.out;have:=HK3.out;have:=HK4.out;have:=HK5.out;omega
                             case rel=>exact ⟨(y311),(wrap64 (x11_4 - 1)),(y309),(by first|rfl|(simp;done)|(simp [*];done)),H',⟨by have:=HJ3.out;have:=HJ7.out;have:=HK3.out;have:=HK4.out;have:=HK5.out;omega⟩,⟨by (with_reducible repeat (first|apply Kd.R_alloc|apply Kd.R_drewN|apply Kd.R_drew));exact HO_9.out⟩,⟨by (with_reducible repeat (first|apply Kd.S_alloc|apply Kd.S_drewN|apply Kd.S_drew));exact Kd.S_mono HO_10.out (fun _ hk=>hk.2)⟩,⟨by (with_reducible repeat (first|apply Kd.R_alloc|apply Kd.R_drewN|apply Kd.R_drew));exact HO_15.out⟩,⟨by repeat (with_reducible first|exact HB.out|apply below_alloc|apply pw_below_drewN|apply below_drew1)⟩⟩
                           · rw [if_neg c54] at H
                             exact absurd H (by simp)
                         · rw [if_neg c52] at H
                           exact absurd H (by simp)
                       · rw [if_neg c51] at H
                         exact absurd H (by simp)
                 · rw [if_neg c26] at H
                   have c26b0:decide (0<x11_4)=false:=decide_eq_false c26
                   clear c26
                   have H':=Aside0.mk H
                   clear H
                   go_wp2
                   go_loopg [18] k4 (fun kq v18 w'=>∃ (x9_5:List Int) (x18_5:Int),v18 = .int .i64 x18_5∧Aside0 (octroiref03_Split.l3 kq a0 x9_5 x18_5=some (r1,r2))∧Aside0 (kq≤k4)∧Aside0 (Kd.R (Kd.int .i64) 3 w' w.heap.size (fun _=>True) u9 x9_5)∧Aside0 (Below w.heap.size w w'))
                   case atStart=>exact ⟨(x9_4),(0),(by first|rfl|(simp;done)|(simp [*];done)),H',⟨Nat.le_refl _⟩,⟨by (with_reducible repeat (first|apply Kd.R_alloc|apply Kd.R_drewN|apply Kd.R_drew));exact HO_9.out⟩,⟨by repeat (with_reducible first|exact HB.out|apply below_alloc|apply pw_below_drewN|apply below_drew1)⟩⟩
                   case round =>
                    clear H'
                    try clear c2
                    try clear p2
                    try clear c3
                    try clear p3
                    try clear q3
                    try clear hx3
                    try clear c4
                    try clear c5
                    try clear p5
                    try clear q5
                    try clear hx5
                    try clear hf5
                    try clear p6
                    try clear c26
                    try clear c26b0
                    try clear c27
                    try clear c27b0
                    try clear c28
                    try clear c29
                    try clear c30
                    try clear p30
                    try clear q30
                    try clear hx30
                    try clear p31
                    try clear q31
                    try clear hx31
                    try clear c33
                    try clear c39
                    try clear c40
                    try clear c42
                    try clear c42b0
                    try clear c51
                    try clear c51b0
                    try clear c52
                    try clear c52b0
                    try clear p53
                    try clear q53
                    try clear hx53
                    try clear hf53
                    try clear c54
                    try clear c54b0
                    try clear p55
                    try clear q55
                    try clear hx55
                    try clear hf55
                    try clear hx305_0
                    try clear hx306_0
                    try clear hx306_1
                    try clear hx307_0
                    try clear hx307_1
                    try clear hx310_0
                    try clear hx53_0
                    try clear hx55_0
                    try clear p305
                    try clear p306
                    try clear p307
                    try clear p310
                    try clear p53
                    try clear p55
                    try clear q305
                    try clear q306
                    try clear q307
                    try clear q310
                    try clear q53
                    try clear q55
                    obtain ⟨x9_5,x18_5,rfl,HA,HK5,HO_9,HB⟩:=hrel
                    cases gk with
                    | zero=>exact absurd HA.out (by simp [octroiref03_Split.l3])
                    | succ k5 =>
                     have H:=HA.out
                     clear HA
                     simp only [octroiref03_Split.l3] at H
                     by_cases c62:x18_5<(x9_5.length:Int)
                     · rw [if_pos c62] at H
                       have c62b0:decide (x18_5<(x9_5.length:Int))=true:=decide_eq_true c62
                       clear c62
                       by_cases c63:a0<0
                       · rw [if_pos c63] at H
                         have c63b0:decide (a0<0)=true:=decide_eq_true c63
                         clear c63
                         by_cases c64:0≤x18_5
                         · rw [if_pos c64] at H
                           have c64b0:decide (0≤x18_5)=true:=decide_eq_true c64
                           clear c64
                           obtain ⟨y313,hy313⟩:∃ y_:List Int,y_=(x9_5.set (x18_5:Int).toNat (wrap64 (-(rd x9_5 x18_5)))):=⟨_,rfl⟩
                           replace H:(octroiref03_Split.l3 k5 a0 y313 (wrap64 (x18_5+1)))=some (r1,r2):=by first|(rw [hy313];with_reducible exact H)|(have H2_:=(Option.bind_some _ _).symm.trans H;rw [hy313];with_reducible exact H2_)|(have H2_:=(Option.bind_some _ _).symm.trans H;with_reducible exact H2_)|with_reducible exact H|(rw [hy313];exact H)|exact H
                           have Ny313:=Aside0.mk hy313
                           clear hy313
                           have H':=Aside0.mk H
                           clear H
                           obtain ⟨Ao66,co66,eo66⟩:=Kd.R_slice HO_9.out
                           subst eo66
                           have p312:0≤(x18_5:Int):=of_decide_eq_true (by assumption)
                           have q312:x18_5<(x9_5.length:Int):=of_decide_eq_true (by assumption)
                           obtain ⟨ad312,e312,hx312_0⟩:=Kd.at_int (Kd.R_reads' HO_9.out).2.2 x18_5 p312 q312
                           cases e312
                           replace p312:=eq_true p312
                           replace q312:=eq_true q312
                           have p65:0≤(x18_5:Int):=of_decide_eq_true (by assumption)
                           have q65:(x18_5:Int)<((x9_5.length:Int):Int):=of_decide_eq_true (by assumption)
                           obtain ⟨go65,co65,eo65,gb65,gl65,cl65,HG65⟩:=Kd.R_form HO_9.out (by omega)
                           (first|cases eo65|(injection eo65 with ea_ en_ ec_;(first|subst ea_|(injection ea_ with ea_;subst ea_));subst ec_;clear en_))
                           have GB65:=Aside0.mk gb65
                           have GG65:=Aside0.mk HG65
                           clear gb65 gl65 HG65
                           (first|simp only [add_plain] at hx312_0|skip)
                           obtain ⟨hx65_0,hf65_0⟩:=Kd.R_celln 0 HO_9.out (x18_5:Int) p65 q65
                           replace p65:=eq_true p65
                           replace q65:=eq_true q65
                           have HP67:=Kd.R_putg HO_9.out (x18_5:Int) (wrap64 (-(rd x9_5 x18_5)))
                           go_wp2_with (first|((with_reducible refine gate_store (t:=3) (p:=125) rfl ?_);refine store_event (t:=3) (p:=125) (v:=?vo_w68) (w1:=(wr.setCell ⟨go65,(x18_5:Int).toNat,none⟩ (.int .i64 (wrap64 (-(rd x9_5 x18_5)))))) ?hg ?ho ?hn ?hr ?_;(case ho=>rfl);(case hg=>rfl);(case hn=>rfl);(case hr=>first|(go_simp;done)|(go_simp;rfl));intro w68 hw;have hg:wr.grownBy w68 (some go65):=(by rw [hw];exact HP67.2);have hp_:Kd.R (Kd.int .i64) 3 w68 w.heap.size (fun _=>True) (.slice (some ⟨go65,0,none⟩) x9_5.length co66) y313:=(by rw [hw,Ny313.out];exact HP67.1);clear HP67;have n0_:=Aside0.mk (hp_);have n1_:=Aside0.mk ((by rw [hw];exact below_set (HB.out) GB65.out:Below w.heap.size w w68));clear HO_9;clear HB;have HO_9:=n0_;have HB:=n1_;clear n0_ n1_;clear hg hw hp_))
                           go_roundg k5
                           case measure=>have:=HJ3.out;have:=HJ7.out;have:=HK3.out;have:=HK4.out;have:=HK5.out;omega
                           case rel=>exact ⟨(y313),(wrap64 (x18_5+1)),(by first|rfl|(simp;done)|(simp [*];done)),H',⟨by have:=HJ3.out;have:=HJ7.out;have:=HK3.out;have:=HK4.out;have:=HK5.out;omega⟩,⟨by (with_reducible repeat (first|apply Kd.R_alloc|apply Kd.R_drewN|apply Kd.R_drew));exact HO_9.out⟩,⟨by repeat (with_reducible first|exact HB.out|apply below_alloc|apply pw_below_drewN|apply below_drew1)⟩⟩
                         · rw [if_neg c64] at H
                           exact absurd H (by simp)
                       · rw [if_neg c63] at H
                         have c63b0:decide (a0<0)=false:=decide_eq_false c63
                         clear c63
                         have H':=Aside0.mk H
                         clear H
                         obtain ⟨Ao69,co69,eo69⟩:=Kd.R_slice HO_9.out
                         subst eo69
                         go_wp2
                         go_roundg k5
                         case measure=>have:=HJ3.out;have:=HJ7.out;have:=HK3.out;have:=HK4.out;have:=HK5.out;omega
                         case rel=>exact ⟨(x9_5),(wrap64 (x18_5+1)),(by first|rfl|(simp;done)|(simp [*];done)),H',⟨by have:=HJ3.out;have:=HJ7.out;have:=HK3.out;have:=HK4.out;have:=HK5.out;omega⟩,⟨by (with_reducible repeat (first|apply Kd.R_alloc|apply Kd.R_drewN|apply Kd.R_drew));exact HO_9.out⟩,⟨by repeat (with_reducible first|exact HB.out|apply below_alloc|apply pw_below_drewN|apply below_drew1)⟩⟩
                     · rw [if_neg c62] at H
                       have c62b0:decide (x18_5<(x9_5.length:Int))=false:=decide_eq_false c62
                       clear c62
                       simp only [Option.some.injEq,Prod.mk.injEq] at H
                       obtain ⟨rfl,rfl⟩:=H
                       obtain ⟨Ao70,co70,eo70⟩:=Kd.R_slice HO_9.out
                       subst eo70
                       go_wp2
                       go_ret2
                       exact ⟨_,by first|rfl|(simp [errW_none,errW_some]<;>rfl)|(simp [*,errW_none,errW_some]<;>rfl),by (with_reducible repeat (first|apply Kd.R_alloc|apply Kd.R_drewN|apply Kd.R_drew));exact HO_9.out,by repeat (with_reducible first|exact HB.out|apply below_alloc|apply pw_below_drewN|apply below_drew1)⟩
             · rw [if_neg c23] at H
               exact absurd H (by simp)
           · rw [if_neg c22] at H
             exact absurd H (by simp)
end Go.Proofs.Ythjondinjebalaa.Print
