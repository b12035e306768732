/- A text of this seat. -/
import Derived.Test.YtlfkfajodnkkhaaX0
namespace Go.Proofs.Ytlfkfajodnkkhaa.Print
open Go.RowKit Go.Proofs.YtlfkfajodnkkhaaW.PrintWords Go.Proofs.YtlfkfajodnkkhaaW.PrintLast Go.Proofs.YtlfkfajodnkkhaaW.PrintMore
attribute [local go_sem] max2_int min2_int max_two min_two max_three min_three max_four min_four   -- for this text's walks alone
set_option linter.unusedVariables false
set_option linter.unusedSimpArgs false
def octroiref01_May.f (a0:Int):Option (Bool):=if a0≥(-4611686018427387904) then (some (decide (a0≤4611686018427387904))) else (some false)
set_option maxHeartbeats 8000000 in
set_option maxRecDepth 100000 in
theorem octroiref01_May.calls (a0:Int) (r:Bool) (w:World) (h:octroiref01_May.f a0=some r) :
 Calls Try.prog 18 #[.int .i64 a0] w fun e w'=>e = .returned (.bool r)∧Drawn0 w w':=by
 have H:(if a0≥(-4611686018427387904) then (some (decide (a0≤4611686018427387904))) else (some false))=some r:=h
 clear h
 by_cases c2:a0≥(-4611686018427387904)
 · rw [if_pos c2] at H
   have c2b0:decide ((-4611686018427387904)≤a0)=true:=decide_eq_true c2
   clear c2
   obtain rfl:=Option.some.inj H
   go_enter Try.func18,Try.ntmps18
   go_wp2
   go_ret
   exact ⟨by first|rfl|(simp;done)|(simp [*];done),by repeat (first|exact Drawn0.refl _|apply Drawn0.step)⟩
 · rw [if_neg c2] at H
   have c2b0:decide ((-4611686018427387904)≤a0)=false:=decide_eq_false c2
   clear c2
   obtain rfl:=Option.some.inj H
   go_enter Try.func18,Try.ntmps18
   go_wp2
   go_ret
   exact ⟨by first|rfl|(simp;done)|(simp [*];done),by repeat (first|exact Drawn0.refl _|apply Drawn0.step)⟩
mutual
def octroiref01_plus.l0:Nat→List Int→List Int→List Int→Int→Int→Option (List Int)
 | 0,_,_,_,_,_=>none
 | k+1,x0,x1,x5,x6,x7=>if x7<(x0.length:Int) then (octroiref01_plus.j1 k x0 x1 x5 x6 x7 true) else (if x7<(x1.length:Int) then (octroiref01_plus.j1 k x0 x1 x5 x6 x7 true) else (octroiref01_plus.j1 k x0 x1 x5 x6 x7 (decide (x6>0))))
def octroiref01_plus.j1:Nat→List Int→List Int→List Int→Int→Int→Bool→Option (List Int)
 | 0,_,_,_,_,_,_=>none
 | k+1,x0,x1,x5,x6,x7,x21=>if x21=true then (if x7<(x0.length:Int) then (if 0≤x7 then (if x7<(x1.length:Int) then (if x5.length<17592186044416 then (octroiref01_plus.l0 k x0 x1 (x5 ++ [Int.tmod (wrap64 ((wrap64 (x6+(rd x0 x7)))+(rd x1 x7))) 2147483648]) (wrap64 (Int.tdiv (wrap64 ((wrap64 (x6+(rd x0 x7)))+(rd x1 x7))) 2147483648)) (wrap64 (x7+1))) else (none)) else (if x5.length<17592186044416 then (octroiref01_plus.l0 k x0 x1 (x5 ++ [Int.tmod (wrap64 (x6+(rd x0 x7))) 2147483648]) (wrap64 (Int.tdiv (wrap64 (x6+(rd x0 x7))) 2147483648)) (wrap64 (x7+1))) else (none))) else (none)) else (if x7<(x1.length:Int) then (if 0≤x7 then (if x5.length<17592186044416 then (octroiref01_plus.l0 k x0 x1 (x5 ++ [Int.tmod (wrap64 (x6+(rd x1 x7))) 2147483648]) (wrap64 (Int.tdiv (wrap64 (x6+(rd x1 x7))) 2147483648)) (wrap64 (x7+1))) else (none)) else (none)) else (if x5.length<17592186044416 then (octroiref01_plus.l0 k x0 x1 (x5 ++ [Int.tmod x6 2147483648]) (wrap64 (Int.tdiv x6 2147483648)) (wrap64 (x7+1))) else (none)))) else (some x5)
end
def octroiref01_plus.f (k:Nat) (l0:List Int) (l1:List Int):Option (List Int):=octroiref01_plus.l0 k l0 l1 ([]:List Int) 0 0
set_option maxHeartbeats 8000000 in
set_option maxRecDepth 100000 in
theorem octroiref01_plus.calls (k:Nat) (A0:Option Addr) (c0:Nat) (l0:List Int) (A1:Option Addr) (c1:Nat) (l1:List Int) (r:List Int) (w:World) (hr0:Kd.C (Kd.int .i64) w A0 l0.length l0) (hc0:l0.length≤c0) (hr1:Kd.C (Kd.int .i64) w A1 l1.length l1) (hc1:l1.length≤c1) (h:octroiref01_plus.f k l0 l1=some r) :
 Calls Try.prog 46 #[.slice A0 l0.length c0,.slice A1 l1.length c1] w fun e w'=>∃ v0_:Value,e = .returned (v0_)∧Kd.R (Kd.int .i64) 3 w' w.heap.size (fun _=>True) v0_ r∧Below w.heap.size w w':=by
 have HR0:=Aside0.mk hr0
 have HC0:=Aside0.mk hc0
 clear hr0 hc0
 have HR1:=Aside0.mk hr1
 have HC1:=Aside0.mk hc1
 clear hr1 hc1
 have HB:=Aside0.mk (Below.refl w.heap.size w)
 have H:(octroiref01_plus.l0 k l0 l1 ([]:List Int) 0 0)=some r:=h
 clear h
 have H':=Aside0.mk H
 clear H
 go_enter Try.func46,Try.ntmps46
 go_wp2
 go_loopg [5,6,7] k (fun kq v5 v6 v7 w'=>∃ (x5_1:List Int) (x6_1:Int) (x7_1:Int),v6 = .int .i64 x6_1∧v7 = .int .i64 x7_1∧Aside0 (octroiref01_plus.l0 kq l0 l1 x5_1 x6_1 x7_1=some r)∧Aside0 (kq≤k)∧Aside0 (Kd.R (Kd.int .i64) 3 w' w.heap.size (fun _=>True) v5 x5_1)∧Aside0 (Below w.heap.size w w'))
 case atStart=>exact ⟨(([]:List Int)),(0),(0),(by first|rfl|(simp;done)|(simp [*];done)),(by first|rfl|(simp;done)|(simp [*];done)),H',⟨Nat.le_refl _⟩,⟨by first|exact Kd.R_nil _ _ _ _ _|exact Kd.N_nil _ _ _ _ _|exact Kd.V_nil _ _ _ _ _|exact Kd.Q_nil _ _ _ _ _|exact Kd.S_nil _ _ _ _ _⟩,⟨by repeat (with_reducible first|exact HB.out|apply below_alloc|apply pw_below_drewN|apply below_drew1)⟩⟩
 case round =>
  clear H'
  try clear c1
  try clear p2
  obtain ⟨x5_1,x6_1,x7_1,rfl,rfl,HA,HK1,HO_5,HB⟩:=hrel
  cases gk with
  | zero=>exact absurd HA.out (by simp [octroiref01_plus.l0])
  | succ k1 =>
   have H:=HA.out
   clear HA
   simp only [octroiref01_plus.l0] at H
   have HC3:=Aside0.mk H
   clear H
   go_upto_region 4 with (fail)
   go_cut [21] (fun v21 wc=>∃ (kq:Nat) (x21_2:Bool),v21 = .bool x21_2∧Aside0 (octroiref01_plus.j1 kq l0 l1 x5_1 x6_1 x7_1 x21_2=some r)∧Aside0 (kq≤k1)∧Aside0 (Kd.R (Kd.int .i64) 3 wc w.heap.size (fun _=>True) u5 x5_1)∧Aside0 (Below w.heap.size w wc))
   case first =>
    have H:=HC3.out
    clear HC3
    by_cases c4:x7_1<(l0.length:Int)
    · rw [if_pos c4] at H
      have c4b0:decide (x7_1<(l0.length:Int))=true:=decide_eq_true c4
      clear c4
      (first|rw [c4b0]|(simp only [i64_w,i32_w];rw [c4b0])|skip)
      have H':=Aside0.mk H
      clear H
      go_wp2
      go_meet
      case rel=>exact ⟨_,(true),(by first|rfl|(simp;done)|(simp [*];done)),H',⟨by have:=HK1.out;first|omega|exact Nat.le_refl _⟩,⟨by (with_reducible repeat (first|apply Kd.R_alloc|apply Kd.R_drewN|apply Kd.R_drew));exact HO_5.out⟩,⟨by repeat (with_reducible first|exact HB.out|apply below_alloc|apply pw_below_drewN|apply below_drew1)⟩⟩
    · rw [if_neg c4] at H
      have c4b0:decide (x7_1<(l0.length:Int))=false:=decide_eq_false c4
      clear c4
      (first|rw [c4b0]|(simp only [i64_w,i32_w];rw [c4b0])|skip)
      by_cases c5:x7_1<(l1.length:Int)
      · rw [if_pos c5] at H
        have c5b0:decide (x7_1<(l1.length:Int))=true:=decide_eq_true c5
        clear c5
        have H':=Aside0.mk H
        clear H
        go_wp2
        go_meet
        case rel=>exact ⟨_,(true),(by first|rfl|(simp;done)|(simp [*];done)),H',⟨by have:=HK1.out;first|omega|exact Nat.le_refl _⟩,⟨by (with_reducible repeat (first|apply Kd.R_alloc|apply Kd.R_drewN|apply Kd.R_drew));exact HO_5.out⟩,⟨by repeat (with_reducible first|exact HB.out|apply below_alloc|apply pw_below_drewN|apply below_drew1)⟩⟩
      · rw [if_neg c5] at H
        have c5b0:decide (x7_1<(l1.length:Int))=false:=decide_eq_false c5
        clear c5
        have H':=Aside0.mk H
        clear H
        go_wp2
        go_meet
        case rel=>exact ⟨_,(decide (x6_1>0)),(by first|rfl|(simp;done)|(simp [*];done)),H',⟨by have:=HK1.out;first|omega|exact Nat.le_refl _⟩,⟨by (with_reducible repeat (first|apply Kd.R_alloc|apply Kd.R_drewN|apply Kd.R_drew));exact HO_5.out⟩,⟨by repeat (with_reducible first|exact HB.out|apply below_alloc|apply pw_below_drewN|apply below_drew1)⟩⟩
   case rest =>
    clear HC3
    try clear c1
    try clear p2
    try clear c4
    try clear c4b0
    try clear c5
    try clear c5b0
    try clear p2
    obtain ⟨kq,x21_2,rfl,HA,HJ2,HO_5,HB⟩:=hcut
    cases kq with
    | zero=>exact absurd HA.out (by simp [octroiref01_plus.j1])
    | succ kj2 =>
     have H:=HA.out
     clear HA
     simp only [octroiref01_plus.j1] at H
     by_cases c6:x21_2=true
     · subst c6
       have H1:(if x7_1<(l0.length:Int) then (if 0≤x7_1 then (if x7_1<(l1.length:Int) then (if x5_1.length<17592186044416 then (octroiref01_plus.l0 kj2 l0 l1 (x5_1 ++ [Int.tmod (wrap64 ((wrap64 (x6_1+(rd l0 x7_1)))+(rd l1 x7_1))) 2147483648]) (wrap64 (Int.tdiv (wrap64 ((wrap64 (x6_1+(rd l0 x7_1)))+(rd l1 x7_1))) 2147483648)) (wrap64 (x7_1+1))) else (none)) else (if x5_1.length<17592186044416 then (octroiref01_plus.l0 kj2 l0 l1 (x5_1 ++ [Int.tmod (wrap64 (x6_1+(rd l0 x7_1))) 2147483648]) (wrap64 (Int.tdiv (wrap64 (x6_1+(rd l0 x7_1))) 2147483648)) (wrap64 (x7_1+1))) else (none))) else (none)) else (if x7_1<(l1.length:Int) then (if 0≤x7_1 then (if x5_1.length<17592186044416 then (octroiref01_plus.l0 kj2 l0 l1 (x5_1 ++ [Int.tmod (wrap64 (x6_1+(rd l1 x7_1))) 2147483648]) (wrap64 (Int.tdiv (wrap64 (x6_1+(rd l1 x7_1))) 2147483648)) (wrap64 (x7_1+1))) else (none)) else (none)) else (if x5_1.length<17592186044416 then (octroiref01_plus.l0 kj2 l0 l1 (x5_1 ++ [Int.tmod x6_1 2147483648]) (wrap64 (Int.tdiv x6_1 2147483648)) (wrap64 (x7_1+1))) else (none))))=some r:=by rw [if_pos rfl] at H;exact H
       clear H
       have H:=H1
       clear H1
       by_cases c7:x7_1<(l0.length:Int)
       · rw [if_pos c7] at H
         have c7b0:decide (x7_1<(l0.length:Int))=true:=decide_eq_true c7
         clear c7
         by_cases c8:0≤x7_1
         · rw [if_pos c8] at H
           have c8b0:decide (0≤x7_1)=true:=decide_eq_true c8
           clear c8
           by_cases c9:x7_1<(l1.length:Int)
           · rw [if_pos c9] at H
             have c9b0:decide (x7_1<(l1.length:Int))=true:=decide_eq_true c9
             clear c9
             by_cases c10:x5_1.length<17592186044416
             · rw [if_pos c10] at H
               have LMc10:=Aside0.mk c10
               clear c10
               obtain ⟨y120,hy120⟩:∃ y_:List Int,y_=(x5_1 ++ [Int.tmod (wrap64 ((wrap64 (x6_1+(rd l0 x7_1)))+(rd l1 x7_1))) 2147483648]):=⟨_,rfl⟩
               replace H:(octroiref01_plus.l0 kj2 l0 l1 y120 (wrap64 (Int.tdiv (wrap64 ((wrap64 (x6_1+(rd l0 x7_1)))+(rd l1 x7_1))) 2147483648)) (wrap64 (x7_1+1)))=some r:=by first|(rw [hy120];with_reducible exact H)|(have H2_:=(Option.bind_some _ _).symm.trans H;rw [hy120];with_reducible exact H2_)|(have H2_:=(Option.bind_some _ _).symm.trans H;with_reducible exact H2_)|with_reducible exact H|(rw [hy120];exact H)|exact H
               have Ny120:=Aside0.mk hy120
               clear hy120
               have H':=Aside0.mk H
               clear H
               have p118:0≤(x7_1:Int):=of_decide_eq_true (by assumption)
               have q118:x7_1<(l0.length:Int):=of_decide_eq_true (by assumption)
               obtain ⟨ad118,e118,hx118_0⟩:=Kd.at_int HR0.out x7_1 p118 q118
               cases e118
               replace hx118_0:=(HB.out.cell (World.block_lt_of_cell? w _ hx118_0)).trans hx118_0
               replace p118:=eq_true p118
               replace q118:=eq_true q118
               have p119:0≤(x7_1:Int):=of_decide_eq_true (by assumption)
               have q119:x7_1<(l1.length:Int):=of_decide_eq_true (by assumption)
               obtain ⟨ad119,e119,hx119_0⟩:=Kd.at_int HR1.out x7_1 p119 q119
               cases e119
               replace hx119_0:=(HB.out.cell (World.block_lt_of_cell? w _ hx119_0)).trans hx119_0
               replace p119:=eq_true p119
               replace q119:=eq_true q119
               go_wp2_with (first|((with_reducible refine gate_builtin (b:=.append) (xs:=#[.tmp 44,.tmp 47]) rfl ?_);(try (refine gate_guard (by rfl) ?_;dsimp only));at_builtin;refine Kd.R_append (Kd.int .i64) (w0:=w) w.heap.size rfl (.tmp 44) (.tmp 47) 50 3 (.int .i64 0) 8 rfl Try.underlying50 info3 rfl (by decide) (by omega) u5 x5_1 (Int.tmod (wrap64 ((wrap64 (x6_1+(rd l0 x7_1)))+(rd l1 x7_1))) 2147483648) [.int .i64 (Int.tmod (wrap64 ((wrap64 (x6_1+(rd l0 x7_1)))+(rd l1 x7_1))) 2147483648)] (fun _=>True) (fun _=>False) rfl rfl ?aP (fun _ hk=>hk.elim) ?aF ?aO ?aB ?aS ?aL ?_;(case aP=>exact rfl);(case aB=>exact (by repeat (with_reducible first|exact HB.out|apply below_alloc|apply pw_below_drewN|apply below_drew1)));(case aF=>exact (fun _ _=>trivial));(case aO=>exact (by (with_reducible repeat (first|apply Kd.R_alloc|apply Kd.R_drewN|apply Kd.R_drew));exact HO_5.out));(case aS=>exact (below_size (by repeat (with_reducible first|exact HB.out|apply below_alloc|apply pw_below_drewN|apply below_drew1))));(case aL=>have:=LMc10.out;omega);intro v121 w11 ho hb hg hat;rw [← Ny120.out] at ho;have n0_:=Aside0.mk (hb);have n1_:=Aside0.mk (ho);clear HB;clear HO_5;have HB:=n0_;have HO122:=n1_;clear n0_ n1_;clear ho hb hg hat))
               go_roundg kj2
               case measure=>have:=HK1.out;have:=HJ2.out;omega
               case rel=>exact ⟨(y120),(wrap64 (Int.tdiv (wrap64 ((wrap64 (x6_1+(rd l0 x7_1)))+(rd l1 x7_1))) 2147483648)),(wrap64 (x7_1+1)),(by first|rfl|(simp;done)|(simp [*];done)),(by first|rfl|(simp;done)|(simp [*];done)),H',⟨by have:=HK1.out;have:=HJ2.out;omega⟩,⟨by (with_reducible repeat (first|apply Kd.R_alloc|apply Kd.R_drewN|apply Kd.R_drew));exact HO122.out⟩,⟨by repeat (with_reducible first|exact HB.out|apply below_alloc|apply pw_below_drewN|apply below_drew1)⟩⟩
             · rw [if_neg c10] at H
               exact absurd H (by simp)
           · rw [if_neg c9] at H
             have c9b0:decide (x7_1<(l1.length:Int))=false:=decide_eq_false c9
             clear c9
             by_cases c12:x5_1.length<17592186044416
             · rw [if_pos c12] at H
               have LMc12:=Aside0.mk c12
               clear c12
               obtain ⟨y123,hy123⟩:∃ y_:List Int,y_=(x5_1 ++ [Int.tmod (wrap64 (x6_1+(rd l0 x7_1))) 2147483648]):=⟨_,rfl⟩
               replace H:(octroiref01_plus.l0 kj2 l0 l1 y123 (wrap64 (Int.tdiv (wrap64 (x6_1+(rd l0 x7_1))) 2147483648)) (wrap64 (x7_1+1)))=some r:=by first|(rw [hy123];with_reducible exact H)|(have H2_:=(Option.bind_some _ _).symm.trans H;rw [hy123];with_reducible exact H2_)|(have H2_:=(Option.bind_some _ _).symm.trans H;with_reducible exact H2_)|with_reducible exact H|(rw [hy123];exact H)|exact H
               have Ny123:=Aside0.mk hy123
               clear hy123
               have H':=Aside0.mk H
               clear H
               have p118:0≤(x7_1:Int):=of_decide_eq_true (by assumption)
               have q118:x7_1<(l0.length:Int):=of_decide_eq_true (by assumption)
               obtain ⟨ad118,e118,hx118_0⟩:=Kd.at_int HR0.out x7_1 p118 q118
               cases e118
               replace hx118_0:=(HB.out.cell (World.block_lt_of_cell? w _ hx118_0)).trans hx118_0
               replace p118:=eq_true p118
               replace q118:=eq_true q118
               go_wp2_with (first|((with_reducible refine gate_builtin (b:=.append) (xs:=#[.tmp 44,.tmp 47]) rfl ?_);(try (refine gate_guard (by rfl) ?_;dsimp only));at_builtin;refine Kd.R_append (Kd.int .i64) (w0:=w) w.heap.size rfl (.tmp 44) (.tmp 47) 50 3 (.int .i64 0) 8 rfl Try.underlying50 info3 rfl (by decide) (by omega) u5 x5_1 (Int.tmod (wrap64 (x6_1+(rd l0 x7_1))) 2147483648) [.int .i64 (Int.tmod (wrap64 (x6_1+(rd l0 x7_1))) 2147483648)] (fun _=>True) (fun _=>False) rfl rfl ?aP (fun _ hk=>hk.elim) ?aF ?aO ?aB ?aS ?aL ?_;(case aP=>exact rfl);(case aB=>exact (by repeat (with_reducible first|exact HB.out|apply below_alloc|apply pw_below_drewN|apply below_drew1)));(case aF=>exact (fun _ _=>trivial));(case aO=>exact (by (with_reducible repeat (first|apply Kd.R_alloc|apply Kd.R_drewN|apply Kd.R_drew));exact HO_5.out));(case aS=>exact (below_size (by repeat (with_reducible first|exact HB.out|apply below_alloc|apply pw_below_drewN|apply below_drew1))));(case aL=>have:=LMc12.out;omega);intro v124 w13 ho hb hg hat;rw [← Ny123.out] at ho;have n0_:=Aside0.mk (hb);have n1_:=Aside0.mk (ho);clear HB;clear HO_5;have HB:=n0_;have HO125:=n1_;clear n0_ n1_;clear ho hb hg hat))
               go_roundg kj2
               case measure=>have:=HK1.out;have:=HJ2.out;omega
               case rel=>exact ⟨(y123),(wrap64 (Int.tdiv (wrap64 (x6_1+(rd l0 x7_1))) 2147483648)),(wrap64 (x7_1+1)),(by first|rfl|(simp;done)|(simp [*];done)),(by first|rfl|(simp;done)|(simp [*];done)),H',⟨by have:=HK1.out;have:=HJ2.out;omega⟩,⟨by (with_reducible repeat (first|apply Kd.R_alloc|apply Kd.R_drewN|apply Kd.R_drew));exact HO125.out⟩,⟨by repeat (with_reducible first|exact HB.out|apply below_alloc|apply pw_below_drewN|apply below_drew1)⟩⟩
             · rw [if_neg c12] at H
               exact absurd H (by simp)
         · rw [if_neg c8] at H
           exact absurd H (by simp)
       · rw [if_neg c7] at H
         have c7b0:decide (x7_1<(l0.length:Int))=false:=decide_eq_false c7
         clear c7
         by_cases c14:x7_1<(l1.length:Int)
         · rw [if_pos c14] at H
           have c14b0:decide (x7_1<(l1.length:Int))=true:=decide_eq_true c14
           clear c14
           by_cases c15:0≤x7_1
           · rw [if_pos c15] at H
             have c15b0:decide (0≤x7_1)=true:=decide_eq_true c15
             clear c15
             by_cases c16:x5_1.length<17592186044416
             · rw [if_pos c16] at H
               have LMc16:=Aside0.mk c16
               clear c16
               obtain ⟨y127,hy127⟩:∃ y_:List Int,y_=(x5_1 ++ [Int.tmod (wrap64 (x6_1+(rd l1 x7_1))) 2147483648]):=⟨_,rfl⟩
               replace H:(octroiref01_plus.l0 kj2 l0 l1 y127 (wrap64 (Int.tdiv (wrap64 (x6_1+(rd l1 x7_1))) 2147483648)) (wrap64 (x7_1+1)))=some r:=by first|(rw [hy127];with_reducible exact H)|(have H2_:=(Option.bind_some _ _).symm.trans H;rw [hy127];with_reducible exact H2_)|(have H2_:=(Option.bind_some _ _).symm.trans H;with_reducible exact H2_)|with_reducible exact H|(rw [hy127];exact H)|exact H
               have Ny127:=Aside0.mk hy127
               clear hy127
               have H':=Aside0.mk H
               clear H
               have p126:0≤(x7_1:Int):=of_decide_eq_true (by assumption)
               have q126:x7_1<(l1.length:Int):=of_decide_eq_true (by assumption)
               obtain ⟨ad126,e126,hx126_0⟩:=Kd.at_int HR1.out x7_1 p126 q126
               cases e126
               replace hx126_0:=(HB.out.cell (World.block_lt_of_cell? w _ hx126_0)).trans hx126_0
               replace p126:=eq_true p126
               replace q126:=eq_true q126
               go_wp2_with (first|((with_reducible refine gate_builtin (b:=.append) (xs:=#[.tmp 44,.tmp 47]) rfl ?_);(try (refine gate_guard (by rfl) ?_;dsimp only));at_builtin;refine Kd.R_append (Kd.int .i64) (w0:=w) w.heap.size rfl (.tmp 44) (.tmp 47) 50 3 (.int .i64 0) 8 rfl Try.underlying50 info3 rfl (by decide) (by omega) u5 x5_1 (Int.tmod (wrap64 (x6_1+(rd l1 x7_1))) 2147483648) [.int .i64 (Int.tmod (wrap64 (x6_1+(rd l1 x7_1))) 2147483648)] (fun _=>True) (fun _=>False) rfl rfl ?aP (fun _ hk=>hk.elim) ?aF ?aO ?aB ?aS ?aL ?_;(case aP=>exact rfl);(case aB=>exact (by repeat (with_reducible first|exact HB.out|apply below_alloc|apply pw_below_drewN|apply below_drew1)));(case aF=>exact (fun _ _=>trivial));(case aO=>exact (by (with_reducible repeat (first|apply Kd.R_alloc|apply Kd.R_drewN|apply Kd.R_drew));exact HO_5.out));(case aS=>exact (below_size (by repeat (with_reducible first|exact HB.out|apply below_alloc|apply pw_below_drewN|apply below_drew1))));(case aL=>have:=LMc16.out;omega);intro v128 w17 ho hb hg hat;rw [← Ny127.out] at ho;have n0_:=Aside0.mk (hb);have n1_:=Aside0.mk (ho);clear HB;clear HO_5;have HB:=n0_;have HO129:=n1_;clear n0_ n1_;clear ho hb hg hat))
               go_roundg kj2
               case measure=>have:=HK1.out;have:=HJ2.out;omega
               case rel=>exact ⟨(y127),(wrap64 (Int.tdiv (wrap64 (x6_1+(rd l1 x7_1))) 2147483648)),(wrap64 (x7_1+1)),(by first|rfl|(simp;done)|(simp [*];done)),(by first|rfl|(simp;done)|(simp [*];done)),H',⟨by have:=HK1.out;have:=HJ2.out;omega⟩,⟨by (with_reducible repeat (first|apply Kd.R_alloc|apply Kd.R_drewN|apply Kd.R_drew));exact HO129.out⟩,⟨by repeat (with_reducible first|exact HB.out|apply below_alloc|apply pw_below_drewN|apply below_drew1)⟩⟩
             · rw [if_neg c16] at H
               exact absurd H (by simp)
           · rw [if_neg c15] at H
             exact absurd H (by simp)
         · rw [if_neg c14] at H
           have c14b0:decide (x7_1<(l1.length:Int))=false:=decide_eq_false c14
           clear c14
           by_cases c18:x5_1.length<17592186044416
           · rw [if_pos c18] at H
             have LMc18:=Aside0.mk c18
             clear c18
             obtain ⟨y130,hy130⟩:∃ y_:List Int,y_=(x5_1 ++ [Int.tmod x6_1 2147483648]):=⟨_,rfl⟩
             replace H:(octroiref01_plus.l0 kj2 l0 l1 y130 (wrap64 (Int.tdiv x6_1 2147483648)) (wrap64 (x7_1+1)))=some r:=by first|(rw [hy130];with_reducible exact H)|(have H2_:=(Option.bind_some _ _).symm.trans H;rw [hy130];with_reducible exact H2_)|(have H2_:=(Option.bind_some _ _).symm.trans H;with_reducible exact H2_)|with_reducible exact H|(rw [hy130];exact H)|exact H
             have Ny130:=Aside0.mk hy130
             clear hy130
             have H':=Aside0.mk H
             clear H
             go_wp2_with (first|((with_reducible refine gate_builtin (b:=.append) (xs:=#[.tmp 44,.tmp 47]) rfl ?_);(try (refine gate_guard (by rfl) ?_;dsimp only));at_builtin;refine Kd.R_append (Kd.int .i64) (w0:=w) w.heap.size rfl (.tmp 44) (.tmp 47) 50 3 (.int .i64 0) 8 rfl Try.underlying50 info3 rfl (by decide) (by omega) u5 x5_1 (Int.tmod x6_1 2147483648) [.int .i64 (Int.tmod x6_1 2147483648)] (fun _=>True) (fun _=>False) rfl rfl ?aP (fun _ hk=>hk.elim) ?aF ?aO ?aB ?aS ?aL ?_;(case aP=>exact rfl);(case aB=>exact (by repeat (with_reducible first|exact HB.out|apply below_alloc|apply pw_below_drewN|apply below_drew1)));(case aF=>exact (fun _ _=>trivial));(case aO=>exact (by (with_reducible repeat (first|apply Kd.R_alloc|apply Kd.R_drewN|apply Kd.R_drew));exact HO_5.out));(case aS=>exact (below_size (by repeat (with_reducible first|exact HB.out|apply below_alloc|apply pw_below_drewN|apply below_drew1))));(case aL=>have:=LMc18.out;omega);intro v131 w19 ho hb hg hat;rw [← Ny130.out] at ho;have n0_:=Aside0.mk (hb);have n1_:=Aside0.mk (ho);clear HB;clear HO_5;have HB:=n0_;have HO132:=n1_;clear n0_ n1_;clear ho hb hg hat))
             go_roundg kj2
             case measure=>have:=HK1.out;have:=HJ2.out;omega
             case rel=>exact ⟨(y130),(wrap64 (Int.tdiv x6_1 2147483648)),(wrap64 (x7_1+1)),(by first|rfl|(simp;done)|(simp [*];done)),(by first|rfl|(simp;done)|(simp [*];done)),H',⟨by have:=HK1.out;have:=HJ2.out;omega⟩,⟨by (with_reducible repeat (first|apply Kd.R_alloc|apply Kd.R_drewN|apply Kd.R_drew));exact HO132.out⟩,⟨by repeat (with_reducible first|exact HB.out|apply below_alloc|apply pw_below_drewN|apply below_drew1)⟩⟩
           · rw [if_neg c18] at H
             exact absurd H (by simp)
     · replace c6:=Bool.eq_false_iff.mpr c6
       subst c6
       have H1:(some x5_1)=some r:=by rw [if_neg (show ¬ (false=true) by decide)] at H;exact H
       clear H
       have H:=H1
       clear H1
       obtain rfl:=Option.some.inj H
       go_wp2
       go_ret
       exact ⟨_,by first|rfl|(simp [errW_none,errW_some]<;>rfl)|(simp [*,errW_none,errW_some]<;>rfl),by (with_reducible repeat (first|apply Kd.R_alloc|apply Kd.R_drewN|apply Kd.R_drew));exact HO_5.out,by repeat (with_reducible first|exact HB.out|apply below_alloc|apply pw_below_drewN|apply below_drew1)⟩
def octroiref01_cmp.l0:Nat→List Int→List Int→Int→Option (Int)
 | 0,_,_,_=>none
 | k+1,x0,x1,x5=>if x5≥0 then (if 0≤x5 then (if x5<(x0.length:Int) then (if x5<(x1.length:Int) then (if (rd x0 x5)=(rd x1 x5) then (octroiref01_cmp.l0 k x0 x1 (wrap64 (x5 - 1))) else (some (wrap64 ((rd x0 x5) - (rd x1 x5))))) else (none)) else (none)) else (none)) else (some 0)
def octroiref01_cmp.f (k:Nat) (l0:List Int) (l1:List Int):Option (Int):=if (l0.length:Int)=(l1.length:Int) then (octroiref01_cmp.l0 k l0 l1 (wrap64 ((l0.length:Int) - 1))) else (some (wrap64 ((l0.length:Int) - (l1.length:Int))))
set_option maxHeartbeats 8000000 in
set_option maxRecDepth 100000 in
theorem octroiref01_cmp.calls (k:Nat) (A0:Option Addr) (c0:Nat) (l0:List Int) (A1:Option Addr) (c1:Nat) (l1:List Int) (r:Int) (w:World) (hr0:Kd.C (Kd.int .i64) w A0 l0.length l0) (hc0:l0.length≤c0) (hr1:Kd.C (Kd.int .i64) w A1 l1.length l1) (hc1:l1.length≤c1) (h:octroiref01_cmp.f k l0 l1=some r) :
 Calls Try.prog 47 #[.slice A0 l0.length c0,.slice A1 l1.length c1] w fun e w'=>e = .returned (.int .i64 r)∧Drawn0 w w':=by
 have HR0:=Aside0.mk hr0
 have HC0:=Aside0.mk hc0
 clear hr0 hc0
 have HR1:=Aside0.mk hr1
 have HC1:=Aside0.mk hc1
 clear hr1 hc1
 have H:(if (l0.length:Int)=(l1.length:Int) then (octroiref01_cmp.l0 k l0 l1 (wrap64 ((l0.length:Int) - 1))) else (some (wrap64 ((l0.length:Int) - (l1.length:Int)))))=some r:=h
 clear h
 by_cases c3:(l0.length:Int)=(l1.length:Int)
 · rw [if_pos c3] at H
   have c3b0:((l0.length:Int) == (l1.length:Int))=true:=beq_iff_eq.mpr c3
   have c3b1:((l0.length:Int) != (l1.length:Int))=false:=bne_eq_false_iff_eq.mpr c3
   have c3b2:(l0.length == l1.length)=true:=by first|simpa using c3|(simp at c3 ⊢;omega)
   clear c3
   have H':=Aside0.mk H
   clear H
   go_enter Try.func47,Try.ntmps47
   go_wp2
   repeat (go_quiet (fail);try go_wp2)
   go_loopg [5] k (fun kq v5 w'=>∃ (x5_1:Int),v5 = .int .i64 x5_1∧Aside0 (octroiref01_cmp.l0 kq l0 l1 x5_1=some r)∧Aside0 (kq≤k)∧Drawn0 w w')
   case atStart=>exact ⟨(wrap64 ((l0.length:Int) - 1)),(by first|rfl|(simp;done)|(simp [*];done)),H',⟨Nat.le_refl _⟩,by repeat (first|exact Drawn0.refl _|apply Drawn0.step)⟩
   case round =>
    clear H'
    try clear c1
    try clear p2
    try clear c3
    try clear c3b0
    try clear c3b1
    try clear c3b2
    obtain ⟨x5_1,rfl,HA,HK1,⟨m1,rfl⟩⟩:=hrel
    cases gk with
    | zero=>exact absurd HA.out (by simp [octroiref01_cmp.l0])
    | succ k1 =>
     have H:=HA.out
     clear HA
     simp only [octroiref01_cmp.l0] at H
     by_cases c4:x5_1≥0
     · rw [if_pos c4] at H
       have c4b0:decide (0≤x5_1)=true:=decide_eq_true c4
       clear c4
       by_cases c5:0≤x5_1
       · rw [if_pos c5] at H
         have c5b0:decide (0≤x5_1)=true:=decide_eq_true c5
         clear c5
         by_cases c6:x5_1<(l0.length:Int)
         · rw [if_pos c6] at H
           have c6b0:decide (x5_1<(l0.length:Int))=true:=decide_eq_true c6
           clear c6
           by_cases c7:x5_1<(l1.length:Int)
           · rw [if_pos c7] at H
             have c7b0:decide (x5_1<(l1.length:Int))=true:=decide_eq_true c7
             clear c7
             by_cases c8:(rd l0 x5_1)=(rd l1 x5_1)
             · rw [if_pos c8] at H
               have c8b0:((rd l0 x5_1) == (rd l1 x5_1))=true:=beq_iff_eq.mpr c8
               have c8b1:((rd l0 x5_1) != (rd l1 x5_1))=false:=bne_eq_false_iff_eq.mpr c8
               clear c8
               have H':=Aside0.mk H
               clear H
               have p133:0≤(x5_1:Int):=of_decide_eq_true (by assumption)
               have q133:x5_1<(l0.length:Int):=of_decide_eq_true (by assumption)
               obtain ⟨ad133,e133,hx133_0⟩:=Kd.at_int HR0.out x5_1 p133 q133
               cases e133
               replace p133:=eq_true p133
               replace q133:=eq_true q133
               have p134:0≤(x5_1:Int):=of_decide_eq_true (by assumption)
               have q134:x5_1<(l1.length:Int):=of_decide_eq_true (by assumption)
               obtain ⟨ad134,e134,hx134_0⟩:=Kd.at_int HR1.out x5_1 p134 q134
               cases e134
               replace p134:=eq_true p134
               replace q134:=eq_true q134
               go_wp2
               repeat (go_quiet (fail);try go_wp2)
               go_roundg k1
               case measure=>have:=HK1.out;omega
               case rel=>exact ⟨(wrap64 (x5_1 - 1)),(by first|rfl|(simp;done)|(simp [*];done)),H',⟨by have:=HK1.out;omega⟩,by repeat (first|exact Drawn0.refl _|apply Drawn0.step)⟩
             · rw [if_neg c8] at H
               have c8b0:((rd l0 x5_1) == (rd l1 x5_1))=false:=beq_eq_false_iff_ne.mpr c8
               have c8b1:((rd l0 x5_1) != (rd l1 x5_1))=true:=bne_iff_ne.mpr c8
               obtain rfl:=Option.some.inj H
               have p133:0≤(x5_1:Int):=of_decide_eq_true (by assumption)
               have q133:x5_1<(l0.length:Int):=of_decide_eq_true (by assumption)
               obtain ⟨ad133,e133,hx133_0⟩:=Kd.at_int HR0.out x5_1 p133 q133
               cases e133
               replace p133:=eq_true p133
               replace q133:=eq_true q133
               have p134:0≤(x5_1:Int):=of_decide_eq_true (by assumption)
               have q134:x5_1<(l1.length:Int):=of_decide_eq_true (by assumption)
               obtain ⟨ad134,e134,hx134_0⟩:=Kd.at_int HR1.out x5_1 p134 q134
               cases e134
               replace p134:=eq_true p134
               replace q134:=eq_true q134
               have p135:0≤(x5_1:Int):=of_decide_eq_true (by assumption)
               have q135:x5_1<(l0.length:Int):=of_decide_eq_true (by assumption)
               obtain ⟨ad135,e135,hx135_0⟩:=Kd.at_int HR0.out x5_1 p135 q135
               obtain rfl:ad133=ad135:=(by injection e135)
               replace p135:=eq_true p135
               replace q135:=eq_true q135
               have p136:0≤(x5_1:Int):=of_decide_eq_true (by assumption)
               have q136:x5_1<(l1.length:Int):=of_decide_eq_true (by assumption)
               obtain ⟨ad136,e136,hx136_0⟩:=Kd.at_int HR1.out x5_1 p136 q136
               obtain rfl:ad134=ad136:=(by injection e136)
               replace p136:=eq_true p136
               replace q136:=eq_true q136
               go_wp2
               repeat (go_quiet (fail);try go_wp2)
               go_ret
               exact ⟨by first|rfl|(simp;done)|(simp [*];done),by repeat (first|exact Drawn0.refl _|apply Drawn0.step)⟩
           · rw [if_neg c7] at H
             exact absurd H (by simp)
         · rw [if_neg c6] at H
           exact absurd H (by simp)
       · rw [if_neg c5] at H
         exact absurd H (by simp)
     · rw [if_neg c4] at H
       have c4b0:decide (0≤x5_1)=false:=decide_eq_false c4
       clear c4
       obtain rfl:=Option.some.inj H
       go_wp2
       repeat (go_quiet (fail);try go_wp2)
       go_ret
       exact ⟨by first|rfl|(simp;done)|(simp [*];done),by repeat (first|exact Drawn0.refl _|apply Drawn0.step)⟩
 · rw [if_neg c3] at H
   have c3b0:((l0.length:Int) == (l1.length:Int))=false:=beq_eq_false_iff_ne.mpr c3
   have c3b1:((l0.length:Int) != (l1.length:Int))=true:=bne_iff_ne.mpr c3
   have c3b2:(l0.length == l1.length)=false:=by first|simpa using c3|(simp at c3 ⊢;omega)
   obtain rfl:=Option.some.inj H
   go_enter Try.func47,Try.ntmps47
   go_wp2
   repeat (go_quiet (fail);try go_wp2)
   go_ret
   exact ⟨by first|rfl|(simp;done)|(simp [*];done),by repeat (first|exact Drawn0.refl _|apply Drawn0.step)⟩
def octroiref01_clean.l0:Nat→List Int→Int→Option (List Int)
 | 0,_,_=>none
 | k+1,x0,x3=>if x3>0 then (if 0≤(wrap64 (x3 - 1)) then (if (wrap64 (x3 - 1))<(x0.length:Int) then (if (rd x0 (wrap64 (x3 - 1)))=0 then (octroiref01_clean.l0 k x0 (wrap64 (x3 - 1))) else (if 0≤x3 then (if x3≤(x0.length:Int) then (some (x0.take (x3:Int).toNat)) else (none)) else (none))) else (none)) else (none)) else (if 0≤x3 then (if x3≤(x0.length:Int) then (some (x0.take (x3:Int).toNat)) else (none)) else (none))
def octroiref01_clean.f (k:Nat) (l0:List Int):Option (List Int):=octroiref01_clean.l0 k l0 (l0.length:Int)
set_option maxHeartbeats 8000000 in
set_option maxRecDepth 100000 in
theorem octroiref01_clean.calls (k:Nat) (P0_:Nat→Prop) (u9000_:Value) (l0:List Int) (r:List Int) (w0 w:World) (hB:Below w0.heap.size w0 w) (ho0:Kd.R (Kd.int .i64) 3 w w0.heap.size P0_ u9000_ l0) (h:octroiref01_clean.f k l0=some r) :
 Calls Try.prog 62 #[u9000_] w fun e w'=>∃ v0_:Value,e = .returned (v0_)∧Kd.R (Kd.int .i64) 3 w' w0.heap.size (fun k_=>(P0_ k_∨w.heap.size≤k_)) v0_ r∧Below w0.heap.size w0 w'∧Kept w w' (fun k_=>P0_ k_):=by
 have HO0:=Aside0.mk (show Kd.R (Kd.int .i64) 3 w w0.heap.size (fun k_=>(P0_ k_∨w.heap.size≤k_)) u9000_ l0 from Kd.R_mono ho0 (fun k_ hk=>(.inl hk)))
 have HK:=Aside0.mk (Kept.refl w (fun k_=>P0_ k_))
 have HW0:=Aside0.mk hB.size
 have HB:=Aside0.mk hB
 clear hB
 have H:(octroiref01_clean.l0 k l0 (l0.length:Int))=some r:=h
 clear h
 have H':=Aside0.mk H
 clear H
 obtain ⟨Ao2,co2,eo2⟩:=Kd.R_slice HO0.out
 subst eo2
 go_enter Try.func62,Try.ntmps62
 go_wp2
 go_loopg [3] k (fun kq v3 w'=>∃ (x3_1:Int),v3 = .int .i64 x3_1∧Aside0 (octroiref01_clean.l0 kq l0 x3_1=some r)∧Aside0 (kq≤k)∧Aside0 (Kd.R (Kd.int .i64) 3 w' w0.heap.size (fun k_=>(P0_ k_∨w.heap.size≤k_)) (.slice Ao2 l0.length co2) l0)∧Aside0 (Kept w w' (fun k_=>P0_ k_))∧Aside0 (Below w0.heap.size w0 w'))
 case atStart=>exact ⟨((l0.length:Int)),(by first|rfl|(simp;done)|(simp [*];done)),H',⟨Nat.le_refl _⟩,⟨by (with_reducible repeat (first|apply Kd.R_alloc|apply Kd.R_drewN|apply Kd.R_drew));exact HO0.out⟩,⟨by repeat (first|(with_reducible first|exact HK.out|apply Kept.alloc|apply Kept.drewN|apply Kept.drew)|exact HK.out)⟩,⟨by repeat (with_reducible first|exact HB.out|apply below_alloc|apply pw_below_drewN|apply below_drew1)⟩⟩
 case round =>
  clear H'
  try clear p2
  obtain ⟨x3_1,rfl,HA,HK1,HO_0,HK,HB⟩:=hrel
  cases gk with
  | zero=>exact absurd HA.out (by simp [octroiref01_clean.l0])
  | succ k1 =>
   have H:=HA.out
   clear HA
   simp only [octroiref01_clean.l0] at H
   by_cases c3:x3_1>0
   · rw [if_pos c3] at H
     have c3b0:decide (0<x3_1)=true:=decide_eq_true c3
     clear c3
     obtain ⟨ji4,hji4⟩:∃ j_:Int,(wrap64 (x3_1 - 1))=j_:=⟨_,rfl⟩
     replace H:(if 0≤(ji4) then (if (ji4)<(l0.length:Int) then (if (rd l0 (ji4))=0 then (octroiref01_clean.l0 k1 l0 ji4) else (if 0≤x3_1 then (if x3_1≤(l0.length:Int) then (some (l0.take (x3_1:Int).toNat)) else (none)) else (none))) else (none)) else (none))=some r:=by first|(rw [hji4] at H;exact H)|(simp only [hji4] at H ⊢;exact H)
     have hji4w:(IntKind.i64.wrap (x3_1 - 1))=ji4:=(i64_w _).trans hji4
     by_cases c5:0≤(ji4)
     · rw [if_pos c5] at H
       have c5b0:decide (0≤(ji4))=true:=decide_eq_true c5
       clear c5
       by_cases c6:(ji4)<(l0.length:Int)
       · rw [if_pos c6] at H
         have c6b0:decide ((ji4)<(l0.length:Int))=true:=decide_eq_true c6
         clear c6
         by_cases c7:(rd l0 (ji4))=0
         · rw [if_pos c7] at H
           have c7b0:((rd l0 (ji4)) == 0)=true:=beq_iff_eq.mpr c7
           have c7b1:((rd l0 (ji4)) != 0)=false:=bne_eq_false_iff_eq.mpr c7
           clear c7
           have H':=Aside0.mk H
           clear H
           have p137:0≤((ji4):Int):=of_decide_eq_true (by assumption)
           have q137:(ji4)<(l0.length:Int):=of_decide_eq_true (by assumption)
           obtain ⟨ad137,e137,hx137_0⟩:=Kd.at_int (Kd.R_reads' HO_0.out).2.2 (ji4) p137 q137
           cases e137
           replace p137:=eq_true p137
           replace q137:=eq_true q137
           go_wp2
           go_roundg k1
           case measure=>have:=HK1.out;omega
           case rel=>exact ⟨(ji4),(by first|rfl|(simp;done)|(simp only [← hji4]<;>(first|rfl|simp))|(simp [*];done)),H',⟨by have:=HK1.out;omega⟩,⟨by (with_reducible repeat (first|apply Kd.R_alloc|apply Kd.R_drewN|apply Kd.R_drew));exact HO_0.out⟩,⟨by repeat (first|(with_reducible first|exact HK.out|apply Kept.alloc|apply Kept.drewN|apply Kept.drew)|exact HK.out)⟩,⟨by repeat (with_reducible first|exact HB.out|apply below_alloc|apply pw_below_drewN|apply below_drew1)⟩⟩
         · rw [if_neg c7] at H
           have c7b0:((rd l0 (ji4)) == 0)=false:=beq_eq_false_iff_ne.mpr c7
           have c7b1:((rd l0 (ji4)) != 0)=true:=bne_iff_ne.mpr c7
           by_cases c8:0≤x3_1
           · rw [if_pos c8] at H
             have c8b0:=eq_true c8
             have c8b1:decide (0≤x3_1)=true:=decide_eq_true c8
             clear c8
             by_cases c9:x3_1≤(l0.length:Int)
             · rw [if_pos c9] at H
               have c9b0:=eq_true c9
               have c9b1:decide (x3_1≤(l0.length:Int))=true:=decide_eq_true c9
               clear c9
               obtain ⟨y138,hy138⟩:∃ y_:List Int,y_=(l0.take (x3_1:Int).toNat):=⟨_,rfl⟩
               replace H:(some y138)=some r:=by first|(rw [hy138];with_reducible exact H)|(have H2_:=(Option.bind_some _ _).symm.trans H;rw [hy138];with_reducible exact H2_)|(have H2_:=(Option.bind_some _ _).symm.trans H;with_reducible exact H2_)|with_reducible exact H|(rw [hy138];exact H)|exact H
               have Ny138:=Aside0.mk hy138
               clear hy138
               obtain rfl:=Option.some.inj H
               have p137:0≤((ji4):Int):=of_decide_eq_true (by assumption)
               have q137:(ji4)<(l0.length:Int):=of_decide_eq_true (by assumption)
               obtain ⟨ad137,e137,hx137_0⟩:=Kd.at_int (Kd.R_reads' HO_0.out).2.2 (ji4) p137 q137
               cases e137
               replace p137:=eq_true p137
               replace q137:=eq_true q137
               have q10:(x3_1:Int)≤((l0.length:Int):Int):=of_decide_eq_true (by assumption)
               obtain ⟨i010,hi010,_,hsz10,_⟩:=info_parts info3
               have hcut10:=cut_to (P:=Try.prog) 50 3 .i64 Try.underlying50 hi010 (some ad137) l0.length co2 x3_1 (of_decide_eq_true (by assumption)) q10 (Kd.R_reads' HO_0.out).2.1
               have hr10:=Kd.R_take (m:=(x3_1:Int).toNat) HO_0.out (by omega)
               have hy10:y138.length=(x3_1:Int).toNat:=(by rw [Ny138.out,List.length_take];omega)
               rw [← Ny138.out] at hr10
               rw [← hy10] at hr10 hcut10
               clear hy10 hi010 hsz10 HO_0
               have HO140:=Aside0.mk hr10
               clear hr10
               replace q10:=eq_true q10
               go_wp2
               go_ret
               exact ⟨_,by first|rfl|(simp [errW_none,errW_some]<;>rfl)|(simp only [← hji4];first|rfl|(simp [errW_none,errW_some]<;>rfl))|(simp [*,errW_none,errW_some]<;>rfl),by (with_reducible repeat (first|apply Kd.R_alloc|apply Kd.R_drewN|apply Kd.R_drew));exact HO140.out,by repeat (with_reducible first|exact HB.out|apply below_alloc|apply pw_below_drewN|apply below_drew1),by repeat (first|(with_reducible first|exact HK.out|apply Kept.alloc|apply Kept.drewN|apply Kept.drew)|exact HK.out)⟩
             · rw [if_neg c9] at H
               exact absurd H (by simp)
           · rw [if_neg c8] at H
             exact absurd H (by simp)
       · rw [if_neg c6] at H
         exact absurd H (by simp)
     · rw [if_neg c5] at H
       exact absurd H (by simp)
   · rw [if_neg c3] at H
     have c3b0:decide (0<x3_1)=false:=decide_eq_false c3
     clear c3
     by_cases c11:0≤x3_1
     · rw [if_pos c11] at H
       have c11b0:=eq_true c11
       have c11b1:decide (0≤x3_1)=true:=decide_eq_true c11
       clear c11
       by_cases c12:x3_1≤(l0.length:Int)
       · rw [if_pos c12] at H
         have c12b0:=eq_true c12
         have c12b1:decide (x3_1≤(l0.length:Int))=true:=decide_eq_true c12
         clear c12
         obtain ⟨y141,hy141⟩:∃ y_:List Int,y_=(l0.take (x3_1:Int).toNat):=⟨_,rfl⟩
         replace H:(some y141)=some r:=by first|(rw [hy141];with_reducible exact H)|(have H2_:=(Option.bind_some _ _).symm.trans H;rw [hy141];with_reducible exact H2_)|(have H2_:=(Option.bind_some _ _).symm.trans H;with_reducible exact H2_)|with_reducible exact H|(rw [hy141];exact H)|exact H
         have Ny141:=Aside0.mk hy141
         clear hy141
         obtain rfl:=Option.some.inj H
         have q13:(x3_1:Int)≤((l0.length:Int):Int):=of_decide_eq_true (by assumption)
         obtain ⟨i013,hi013,_,hsz13,_⟩:=info_parts info3
         have hcut13:=cut_to (P:=Try.prog) 50 3 .i64 Try.underlying50 hi013 Ao2 l0.length co2 x3_1 (of_decide_eq_true (by assumption)) q13 (Kd.R_reads' HO_0.out).2.1
         have hr13:=Kd.R_take (m:=(x3_1:Int).toNat) HO_0.out (by omega)
         have hy13:y141.length=(x3_1:Int).toNat:=(by rw [Ny141.out,List.length_take];omega)
         rw [← Ny141.out] at hr13
         rw [← hy13] at hr13 hcut13
         clear hy13 hi013 hsz13 HO_0
         have HO143:=Aside0.mk hr13
         clear hr13
         replace q13:=eq_true q13
         go_wp2
         go_ret
         exact ⟨_,by first|rfl|(simp [errW_none,errW_some]<;>rfl)|(simp [*,errW_none,errW_some]<;>rfl),by (with_reducible repeat (first|apply Kd.R_alloc|apply Kd.R_drewN|apply Kd.R_drew));exact HO143.out,by repeat (with_reducible first|exact HB.out|apply below_alloc|apply pw_below_drewN|apply below_drew1),by repeat (first|(with_reducible first|exact HK.out|apply Kept.alloc|apply Kept.drewN|apply Kept.drew)|exact HK.out)⟩
       · rw [if_neg c12] at H
         exact absurd H (by simp)
     · rw [if_neg c11] at H
       exact absurd H (by simp)
def octroiref01_minus.l0:Nat→List Int→List Int→List Int→Int→Int→Option (List Int)
 | 0,_,_,_,_,_=>none
 | k+1,x0,x1,x5,x6,x7=>if x7<(x0.length:Int) then (if 0≤x7 then (if x7<(x1.length:Int) then (if (wrap64 ((wrap64 ((rd x0 x7) - x6)) - (rd x1 x7)))<0 then (if x5.length<17592186044416 then (octroiref01_minus.l0 k x0 x1 (x5 ++ [wrap64 ((wrap64 ((wrap64 ((rd x0 x7) - x6)) - (rd x1 x7)))+2147483648)]) 1 (wrap64 (x7+1))) else (none)) else (if x5.length<17592186044416 then (octroiref01_minus.l0 k x0 x1 (x5 ++ [wrap64 ((wrap64 ((rd x0 x7) - x6)) - (rd x1 x7))]) 0 (wrap64 (x7+1))) else (none))) else (if (wrap64 ((rd x0 x7) - x6))<0 then (if x5.length<17592186044416 then (octroiref01_minus.l0 k x0 x1 (x5 ++ [wrap64 ((wrap64 ((rd x0 x7) - x6))+2147483648)]) 1 (wrap64 (x7+1))) else (none)) else (if x5.length<17592186044416 then (octroiref01_minus.l0 k x0 x1 (x5 ++ [wrap64 ((rd x0 x7) - x6)]) 0 (wrap64 (x7+1))) else (none)))) else (none)) else ((octroiref01_clean.f k x5).bind fun t144=>(some t144))
def octroiref01_minus.f (k:Nat) (l0:List Int) (l1:List Int):Option (List Int):=octroiref01_minus.l0 k l0 l1 ([]:List Int) 0 0
set_option maxHeartbeats 8000000 in
set_option maxRecDepth 100000 in
theorem octroiref01_minus.calls (k:Nat) (A0:Option Addr) (c0:Nat) (l0:List Int) (A1:Option Addr) (c1:Nat) (l1:List Int) (r:List Int) (w:World) (hr0:Kd.C (Kd.int .i64) w A0 l0.length l0) (hc0:l0.length≤c0) (hr1:Kd.C (Kd.int .i64) w A1 l1.length l1) (hc1:l1.length≤c1) (h:octroiref01_minus.f k l0 l1=some r) :
 Calls Try.prog 48 #[.slice A0 l0.length c0,.slice A1 l1.length c1] w fun e w'=>∃ v0_:Value,e = .returned (v0_)∧Kd.R (Kd.int .i64) 3 w' w.heap.size (fun _=>True) v0_ r∧Below w.heap.size w w':=by
 have HR0:=Aside0.mk hr0
 have HC0:=Aside0.mk hc0
 clear hr0 hc0
 have HR1:=Aside0.mk hr1
 have HC1:=Aside0.mk hc1
 clear hr1 hc1
 have HB:=Aside0.mk (Below.refl w.heap.size w)
 have H:(octroiref01_minus.l0 k l0 l1 ([]:List Int) 0 0)=some r:=h
 clear h
 have H':=Aside0.mk H
 clear H
 go_enter Try.func48,Try.ntmps48
 go_wp2
 go_loopg [5,6,7] k (fun kq v5 v6 v7 w'=>∃ (x5_1:List Int) (x6_1:Int) (x7_1:Int),v6 = .int .i64 x6_1∧v7 = .int .i64 x7_1∧Aside0 (octroiref01_minus.l0 kq l0 l1 x5_1 x6_1 x7_1=some r)∧Aside0 (kq≤k)∧Aside0 (Kd.R (Kd.int .i64) 3 w' w.heap.size (fun _=>True) v5 x5_1)∧Aside0 (Below w.heap.size w w'))
 case atStart=>exact ⟨(([]:List Int)),(0),(0),(by first|rfl|(simp;done)|(simp [*];done)),(by first|rfl|(simp;done)|(simp [*];done)),H',⟨Nat.le_refl _⟩,⟨by first|exact Kd.R_nil _ _ _ _ _|exact Kd.N_nil _ _ _ _ _|exact Kd.V_nil _ _ _ _ _|exact Kd.Q_nil _ _ _ _ _|exact Kd.S_nil _ _ _ _ _⟩,⟨by repeat (with_reducible first|exact HB.out|apply below_alloc|apply pw_below_drewN|apply below_drew1)⟩⟩
 case round =>
  clear H'
  try clear c1
  try clear p2
  obtain ⟨x5_1,x6_1,x7_1,rfl,rfl,HA,HK1,HO_5,HB⟩:=hrel
  cases gk with
  | zero=>exact absurd HA.out (by simp [octroiref01_minus.l0])
  | succ k1 =>
   have H:=HA.out
   clear HA
   simp only [octroiref01_minus.l0] at H
   by_cases c3:x7_1<(l0.length:Int)
   · rw [if_pos c3] at H
     have c3b0:decide (x7_1<(l0.length:Int))=true:=decide_eq_true c3
     clear c3
     by_cases c4:0≤x7_1
     · rw [if_pos c4] at H
       have c4b0:decide (0≤x7_1)=true:=decide_eq_true c4
       clear c4
       by_cases c5:x7_1<(l1.length:Int)
       · rw [if_pos c5] at H
         have c5b0:decide (x7_1<(l1.length:Int))=true:=decide_eq_true c5
         clear c5
         by_cases c6:(wrap64 ((wrap64 ((rd l0 x7_1) - x6_1)) - (rd l1 x7_1)))<0
         · rw [if_pos c6] at H
           have c6b0:decide ((wrap64 ((wrap64 ((rd l0 x7_1) - x6_1)) - (rd l1 x7_1)))<0)=true:=decide_eq_true c6
           clear c6
           by_cases c7:x5_1.length<17592186044416
           · rw [if_pos c7] at H
             have LMc7:=Aside0.mk c7
             clear c7
             obtain ⟨y149,hy149⟩:∃ y_:List Int,y_=(x5_1 ++ [wrap64 ((wrap64 ((wrap64 ((rd l0 x7_1) - x6_1)) - (rd l1 x7_1)))+2147483648)]):=⟨_,rfl⟩
             replace H:(octroiref01_minus.l0 k1 l0 l1 y149 1 (wrap64 (x7_1+1)))=some r:=by first|(rw [hy149];with_reducible exact H)|(have H2_:=(Option.bind_some _ _).symm.trans H;rw [hy149];with_reducible exact H2_)|(have H2_:=(Option.bind_some _ _).symm.trans H;with_reducible exact H2_)|with_reducible exact H|(rw [hy149];exact H)|exact H
             have Ny149:=Aside0.mk hy149
             clear hy149
             have H':=Aside0.mk H
             clear H
             have p147:0≤(x7_1:Int):=of_decide_eq_true (by assumption)
             have q147:x7_1<(l0.length:Int):=of_decide_eq_true (by assumption)
             obtain ⟨ad147,e147,hx147_0⟩:=Kd.at_int HR0.out x7_1 p147 q147
             cases e147
             replace hx147_0:=(HB.out.cell (World.block_lt_of_cell? w _ hx147_0)).trans hx147_0
             replace p147:=eq_true p147
             replace q147:=eq_true q147
             have p148:0≤(x7_1:Int):=of_decide_eq_true (by assumption)
             have q148:x7_1<(l1.length:Int):=of_decide_eq_true (by assumption)
             obtain ⟨ad148,e148,hx148_0⟩:=Kd.at_int HR1.out x7_1 p148 q148
             cases e148
             replace hx148_0:=(HB.out.cell (World.block_lt_of_cell? w _ hx148_0)).trans hx148_0
             replace p148:=eq_true p148
             replace q148:=eq_true q148
             go_wp2_with (first|((with_reducible refine gate_builtin (b:=.append) (xs:=#[.tmp 35,.tmp 37]) rfl ?_);at_builtin;refine Kd.R_append (Kd.int .i64) (w0:=w) w.heap.size rfl (.tmp 35) (.tmp 37) 50 3 (.int .i64 0) 8 rfl Try.underlying50 info3 rfl (by decide) (by omega) u5 x5_1 (wrap64 ((wrap64 ((wrap64 ((rd l0 x7_1) - x6_1)) - (rd l1 x7_1)))+2147483648)) [.int .i64 (wrap64 ((wrap64 ((wrap64 ((rd l0 x7_1) - x6_1)) - (rd l1 x7_1)))+2147483648))] (fun _=>True) (fun _=>False) rfl rfl ?aP (fun _ hk=>hk.elim) ?aF ?aO ?aB ?aS ?aL ?_;(case aP=>exact rfl);(case aB=>exact (by repeat (with_reducible first|exact HB.out|apply below_alloc|apply pw_below_drewN|apply below_drew1)));(case aF=>exact (fun _ _=>trivial));(case aO=>exact (by (with_reducible repeat (first|apply Kd.R_alloc|apply Kd.R_drewN|apply Kd.R_drew));exact HO_5.out));(case aS=>exact (below_size (by repeat (with_reducible first|exact HB.out|apply below_alloc|apply pw_below_drewN|apply below_drew1))));(case aL=>have:=LMc7.out;omega);intro v150 w8 ho hb hg hat;rw [← Ny149.out] at ho;have n0_:=Aside0.mk (hb);have n1_:=Aside0.mk (ho);clear HB;clear HO_5;have HB:=n0_;have HO151:=n1_;clear n0_ n1_;clear ho hb hg hat))
             go_roundg k1
             case measure=>have:=HK1.out;omega
             case rel=>exact ⟨(y149),(1),(wrap64 (x7_1+1)),(by first|rfl|(simp;done)|(simp [*];done)),(by first|rfl|(simp;done)|(simp [*];done)),H',⟨by have:=HK1.out;omega⟩,⟨by (with_reducible repeat (first|apply Kd.R_alloc|apply Kd.R_drewN|apply Kd.R_drew));exact HO151.out⟩,⟨by repeat (with_reducible first|exact HB.out|apply below_alloc|apply pw_below_drewN|apply below_drew1)⟩⟩
           · rw [if_neg c7] at H
             exact absurd H (by simp)
         · rw [if_neg c6] at H
           have c6b0:decide ((wrap64 ((wrap64 ((rd l0 x7_1) - x6_1)) - (rd l1 x7_1)))<0)=false:=decide_eq_false c6
           clear c6
           by_cases c9:x5_1.length<17592186044416
           · rw [if_pos c9] at H
             have LMc9:=Aside0.mk c9
             clear c9
             obtain ⟨y152,hy152⟩:∃ y_:List Int,y_=(x5_1 ++ [wrap64 ((wrap64 ((rd l0 x7_1) - x6_1)) - (rd l1 x7_1))]):=⟨_,rfl⟩
             replace H:(octroiref01_minus.l0 k1 l0 l1 y152 0 (wrap64 (x7_1+1)))=some r:=by first|(rw [hy152];with_reducible exact H)|(have H2_:=(Option.bind_some _ _).symm.trans H;rw [hy152];with_reducible exact H2_)|(have H2_:=(Option.bind_some _ _).symm.trans H;with_reducible exact H2_)|with_reducible exact H|(rw [hy152];exact H)|exact H
             have Ny152:=Aside0.mk hy152
             clear hy152
             have H':=Aside0.mk H
             clear H
             have p147:0≤(x7_1:Int):=of_decide_eq_true (by assumption)
             have q147:x7_1<(l0.length:Int):=of_decide_eq_true (by assumption)
             obtain ⟨ad147,e147,hx147_0⟩:=Kd.at_int HR0.out x7_1 p147 q147
             cases e147
             replace hx147_0:=(HB.out.cell (World.block_lt_of_cell? w _ hx147_0)).trans hx147_0
             replace p147:=eq_true p147
             replace q147:=eq_true q147
             have p148:0≤(x7_1:Int):=of_decide_eq_true (by assumption)
             have q148:x7_1<(l1.length:Int):=of_decide_eq_true (by assumption)
             obtain ⟨ad148,e148,hx148_0⟩:=Kd.at_int HR1.out x7_1 p148 q148
             cases e148
             replace hx148_0:=(HB.out.cell (World.block_lt_of_cell? w _ hx148_0)).trans hx148_0
             replace p148:=eq_true p148
             replace q148:=eq_true q148
             go_wp2_with (first|((with_reducible refine gate_builtin (b:=.append) (xs:=#[.tmp 35,.tmp 37]) rfl ?_);at_builtin;refine Kd.R_append (Kd.int .i64) (w0:=w) w.heap.size rfl (.tmp 35) (.tmp 37) 50 3 (.int .i64 0) 8 rfl Try.underlying50 info3 rfl (by decide) (by omega) u5 x5_1 (wrap64 ((wrap64 ((rd l0 x7_1) - x6_1)) - (rd l1 x7_1))) [.int .i64 (wrap64 ((wrap64 ((rd l0 x7_1) - x6_1)) - (rd l1 x7_1)))] (fun _=>True) (fun _=>False) rfl rfl ?aP (fun _ hk=>hk.elim) ?aF ?aO ?aB ?aS ?aL ?_;(case aP=>exact rfl);(case aB=>exact (by repeat (with_reducible first|exact HB.out|apply below_alloc|apply pw_below_drewN|apply below_drew1)));(case aF=>exact (fun _ _=>trivial));(case aO=>exact (by (with_reducible repeat (first|apply Kd.R_alloc|apply Kd.R_drewN|apply Kd.R_drew));exact HO_5.out));(case aS=>exact (below_size (by repeat (with_reducible first|exact HB.out|apply below_alloc|apply pw_below_drewN|apply below_drew1))));(case aL=>have:=LMc9.out;omega);intro v153 w10 ho hb hg hat;rw [← Ny152.out] at ho;have n0_:=Aside0.mk (hb);have n1_:=Aside0.mk (ho);clear HB;clear HO_5;have HB:=n0_;have HO154:=n1_;clear n0_ n1_;clear ho hb hg hat))
             go_roundg k1
             case measure=>have:=HK1.out;omega
             case rel=>exact ⟨(y152),(0),(wrap64 (x7_1+1)),(by first|rfl|(simp;done)|(simp [*];done)),(by first|rfl|(simp;done)|(simp [*];done)),H',⟨by have:=HK1.out;omega⟩,⟨by (with_reducible repeat (first|apply Kd.R_alloc|apply Kd.R_drewN|apply Kd.R_drew));exact HO154.out⟩,⟨by repeat (with_reducible first|exact HB.out|apply below_alloc|apply pw_below_drewN|apply below_drew1)⟩⟩
           · rw [if_neg c9] at H
             exact absurd H (by simp)
       · rw [if_neg c5] at H
         have c5b0:decide (x7_1<(l1.length:Int))=false:=decide_eq_false c5
         clear c5
         by_cases c11:(wrap64 ((rd l0 x7_1) - x6_1))<0
         · rw [if_pos c11] at H
           have c11b0:decide ((wrap64 ((rd l0 x7_1) - x6_1))<0)=true:=decide_eq_true c11
           clear c11
           by_cases c12:x5_1.length<17592186044416
           · rw [if_pos c12] at H
             have LMc12:=Aside0.mk c12
             clear c12
             obtain ⟨y155,hy155⟩:∃ y_:List Int,y_=(x5_1 ++ [wrap64 ((wrap64 ((rd l0 x7_1) - x6_1))+2147483648)]):=⟨_,rfl⟩
             replace H:(octroiref01_minus.l0 k1 l0 l1 y155 1 (wrap64 (x7_1+1)))=some r:=by first|(rw [hy155];with_reducible exact H)|(have H2_:=(Option.bind_some _ _).symm.trans H;rw [hy155];with_reducible exact H2_)|(have H2_:=(Option.bind_some _ _).symm.trans H;with_reducible exact H2_)|with_reducible exact H|(rw [hy155];exact H)|exact H
             have Ny155:=Aside0.mk hy155
             clear hy155
             have H':=Aside0.mk H
             clear H
             have p147:0≤(x7_1:Int):=of_decide_eq_true (by assumption)
             have q147:x7_1<(l0.length:Int):=of_decide_eq_true (by assumption)
             obtain ⟨ad147,e147,hx147_0⟩:=Kd.at_int HR0.out x7_1 p147 q147
             cases e147
             replace hx147_0:=(HB.out.cell (World.block_lt_of_cell? w _ hx147_0)).trans hx147_0
             replace p147:=eq_true p147
             replace q147:=eq_true q147
             go_wp2_with (first|((with_reducible refine gate_builtin (b:=.append) (xs:=#[.tmp 35,.tmp 37]) rfl ?_);at_builtin;refine Kd.R_append (Kd.int .i64) (w0:=w) w.heap.size rfl (.tmp 35) (.tmp 37) 50 3 (.int .i64 0) 8 rfl Try.underlying50 info3 rfl (by decide) (by omega) u5 x5_1 (wrap64 ((wrap64 ((rd l0 x7_1) - x6_1))+2147483648)) [.int .i64 (wrap64 ((wrap64 ((rd l0 x7_1) - x6_1))+2147483648))] (fun _=>True) (fun _=>False) rfl rfl ?aP (fun _ hk=>hk.elim) ?aF ?aO ?aB ?aS ?aL ?_;(case aP=>exact rfl);(case aB=>exact (by repeat (with_reducible first|exact HB.out|apply below_alloc|apply pw_below_drewN|apply below_drew1)));(case aF=>exact (fun _ _=>trivial));(case aO=>exact (by (with_reducible repeat (first|apply Kd.R_alloc|apply Kd.R_drewN|apply Kd.R_drew));exact HO_5.out));(case aS=>exact (below_size (by repeat (with_reducible first|exact HB.out|apply below_alloc|apply pw_below_drewN|apply below_drew1))));(case aL=>have:=LMc12.out;omega);intro v156 w13 ho hb hg hat;rw [← Ny155.out] at ho;have n0_:=Aside0.mk (hb);have n1_:=Aside0.mk (ho);clear HB;clear HO_5;have HB:=n0_;have HO157:=n1_;clear n0_ n1_;clear ho hb hg hat))
             go_roundg k1
             case measure=>have:=HK1.out;omega
             case rel=>exact ⟨(y155),(1),(wrap64 (x7_1+1)),(by first|rfl|(simp;done)|(simp [*];done)),(by first|rfl|(simp;done)|(simp [*];done)),H',⟨by have:=HK1.out;omega⟩,⟨by (with_reducible repeat (first|apply Kd.R_alloc|apply Kd.R_drewN|apply Kd.R_drew));exact HO157.out⟩,⟨by repeat (with_reducible first|exact HB.out|apply below_alloc|apply pw_below_drewN|apply below_drew1)⟩⟩
           · rw [if_neg c12] at H
             exact absurd H (by simp)
         · rw [if_neg c11] at H
           have c11b0:decide ((wrap64 ((rd l0 x7_1) - x6_1))<0)=false:=decide_eq_false c11
           clear c11
           by_cases c14:x5_1.length<17592186044416
           · rw [if_pos c14] at H
             have LMc14:=Aside0.mk c14
             clear c14
             obtain ⟨y158,hy158⟩:∃ y_:List Int,y_=(x5_1 ++ [wrap64 ((rd l0 x7_1) - x6_1)]):=⟨_,rfl⟩
             replace H:(octroiref01_minus.l0 k1 l0 l1 y158 0 (wrap64 (x7_1+1)))=some r:=by first|(rw [hy158];with_reducible exact H)|(have H2_:=(Option.bind_some _ _).symm.trans H;rw [hy158];with_reducible exact H2_)|(have H2_:=(Option.bind_some _ _).symm.trans H;with_reducible exact H2_)|with_reducible exact H|(rw [hy158];exact H)|exact H
             have Ny158:=Aside0.mk hy158
             clear hy158
             have H':=Aside0.mk H
             clear H
             have p147:0≤(x7_1:Int):=of_decide_eq_true (by assumption)
             have q147:x7_1<(l0.length:Int):=of_decide_eq_true (by assumption)
             obtain ⟨ad147,e147,hx147_0⟩:=Kd.at_int HR0.out x7_1 p147 q147
             cases e147
             replace hx147_0:=(HB.out.cell (World.block_lt_of_cell? w _ hx147_0)).trans hx147_0
             replace p147:=eq_true p147
             replace q147:=eq_true q147
             go_wp2_with (first|((with_reducible refine gate_builtin (b:=.append) (xs:=#[.tmp 35,.tmp 37]) rfl ?_);at_builtin;refine Kd.R_append (Kd.int .i64) (w0:=w) w.heap.size rfl (.tmp 35) (.tmp 37) 50 3 (.int .i64 0) 8 rfl Try.underlying50 info3 rfl (by decide) (by omega) u5 x5_1 (wrap64 ((rd l0 x7_1) - x6_1)) [.int .i64 (wrap64 ((rd l0 x7_1) - x6_1))] (fun _=>True) (fun _=>False) rfl rfl ?aP (fun _ hk=>hk.elim) ?aF ?aO ?aB ?aS ?aL ?_;(case aP=>exact rfl);(case aB=>exact (by repeat (with_reducible first|exact HB.out|apply below_alloc|apply pw_below_drewN|apply below_drew1)));(case aF=>exact (fun _ _=>trivial));(case aO=>exact (by (with_reducible repeat (first|apply Kd.R_alloc|apply Kd.R_drewN|apply Kd.R_drew));exact HO_5.out));(case aS=>exact (below_size (by repeat (with_reducible first|exact HB.out|apply below_alloc|apply pw_below_drewN|apply below_drew1))));(case aL=>have:=LMc14.out;omega);intro v159 w15 ho hb hg hat;rw [← Ny158.out] at ho;have n0_:=Aside0.mk (hb);have n1_:=Aside0.mk (ho);clear HB;clear HO_5;have HB:=n0_;have HO160:=n1_;clear n0_ n1_;clear ho hb hg hat))
             go_roundg k1
             case measure=>have:=HK1.out;omega
             case rel=>exact ⟨(y158),(0),(wrap64 (x7_1+1)),(by first|rfl|(simp;done)|(simp [*];done)),(by first|rfl|(simp;done)|(simp [*];done)),H',⟨by have:=HK1.out;omega⟩,⟨by (with_reducible repeat (first|apply Kd.R_alloc|apply Kd.R_drewN|apply Kd.R_drew));exact HO160.out⟩,⟨by repeat (with_reducible first|exact HB.out|apply below_alloc|apply pw_below_drewN|apply below_drew1)⟩⟩
           · rw [if_neg c14] at H
             exact absurd H (by simp)
     · rw [if_neg c4] at H
       exact absurd H (by simp)
   · rw [if_neg c3] at H
     have c3b0:decide (x7_1<(l0.length:Int))=false:=decide_eq_false c3
     clear c3
     replace H:=Option.bind_eq_some_iff.mp H
     obtain ⟨t144,A160,H⟩:=H
     replace H:(some t144)=some r:=H
     have A16:=Aside0.mk A160
     clear A160
     obtain rfl:=Option.some.inj H
     obtain ⟨Ao17,co17,eo17⟩:=Kd.R_slice HO_5.out
     subst eo17
     go_wp2_with (first|((with_reducible refine gate_callee (f:=62) rfl ?_);refine goesL_ (some 40) rfl rfl Try.func62 (by kernel_rfl) rfl #[.slice Ao17 x5_1.length co17] rfl (by (try simp only [List.map_toArray,List.map_cons,List.map_nil]);first|done|rfl|(simp only [List.length_drop,List.length_take];rfl)) ?_;(with_reducible refine (octroiref01_clean.calls k1 (fun k_=>some k_=(.slice Ao17 x5_1.length co17:Value).ownBlock) (.slice Ao17 x5_1.length co17) x5_1 t144 w _ ?side1 ?side2 A16.out).mono ?_);(case side1=>repeat (with_reducible first|exact HB.out|apply below_alloc|apply pw_below_drewN|apply below_drew1));(case side2=>exact Kd.R_tight rfl HO_5.out);rintro e w18 ⟨v145,rfl,ho0,hb,hkp⟩;refine ⟨_,rfl,?_⟩;have n0_:=Aside0.mk (Kd.R_mono (ok':=fun k_=>True) ho0 (fun k_ hk_=>trivial));have n1_:=Aside0.mk (hb);clear HB;clear HO_5;have HO146:=n0_;have HB:=n1_;clear n0_ n1_;(try clear hb);(try clear hkp);(try clear ho0)))
     go_ret
     exact ⟨_,by first|rfl|(simp [errW_none,errW_some]<;>rfl)|(simp [*,errW_none,errW_some]<;>rfl),by (with_reducible repeat (first|apply Kd.R_alloc|apply Kd.R_drewN|apply Kd.R_drew));exact HO146.out,by repeat (with_reducible first|exact HB.out|apply below_alloc|apply pw_below_drewN|apply below_drew1)⟩
end Go.Proofs.Ytlfkfajodnkkhaa.Print
