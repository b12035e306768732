/- A text of this seat. -/
import Derived.Test.YtlfkfajodnkkhaaShI
import Derived.Test.YtlfkfajodnkkhaaWideA
import Derived.Test.YtlfkfajodnkkhaaMoney
import Derived.Test.YtlfkfajodnkkhaaShS
import Derived.Test.YtlfkfajodnkkhaaBitsD
import Derived.Test.YtlfkfajodnkkhaaX0
namespace Go.Proofs.Ytlfkfajodnkkhaa.Ax
open Go Go.RowKit Go.Proofs.Ytlfkfajodnkkhaa.Print Go.Proofs.YtlfkfajodnkkhaaW.PrintWords
set_option linter.unusedVariables false
set_option linter.unusedSimpArgs false
def intsOf:List SV→Option (List Int)
 | []=>some []
 | s :: l=>match s with
  | .v (.int .i64 a)=>match intsOf l with
   | some r=>some (a :: r)
   | none=>none
  | _=>none
theorem intsOf_den (ρ:Rho):∀ {c:List SV} {l:List Int},intsOf c=some l→denL ρ c=l.map (Value.int .i64)
 | [],l,h=>by cases h;rfl
 | s :: c,l,h=>by
  cases s with
  | v x =>
   cases x with
   | int k a =>
    cases k<;>simp only [intsOf,reduceCtorEq] at h
    cases hr:intsOf c with
    | none=>rw [hr] at h;cases h
    | some r =>
     rw [hr] at h
     cases h
     simp only [denL,den,intsOf_den ρ hr,List.map_cons]
   | _=>cases h
  | _=>cases h
theorem C_of_cells {w:World} {ρ:Rho} {id ty:Nat} {c:List SV} {l:List Int} (h:OK ρ w (ρ id) (.cells ty c)) (hl:intsOf c=some l) (hb:l.length≤9223372036854775807) :
 den ρ (.slc id 1 0 l.length (some l.length)) = .slice (some ⟨(ρ id).blk,0,none⟩) l.length l.length∧Kd.C (Kd.int .i64) w (some ⟨(ρ id).blk,0,none⟩) l.length l:=by
 obtain ⟨h1,h2,h3⟩:=h
 rw [intsOf_den ρ hl] at h3
 refine ⟨?_,rfl,hb,fun _=>⟨_,rfl,fun j p hp=>⟨[Value.int .i64 p],rfl,rfl,fun i u hu=>?_⟩⟩⟩
 · simp only [den,h1,h2,Bool.false_eq_true,if_false,Nat.zero_mul,Nat.add_zero]
 have hi:i=0:=by
  cases i with
  | zero=>rfl
  | succ i=>simp at hu
 subst hi
 simp at hu
 subst hu
 have ha:(⟨(ρ id).blk,0,none⟩:Addr).add (j * 1+0)=⟨(ρ id).blk,j,none⟩:=by
  unfold Addr.add
  split
  · rename_i h0;congr 1;omega
  · simp
 show w.cell? ((⟨(ρ id).blk,0,none⟩:Addr).add (j * 1+0))=_
 rw [ha,cell_of_row w _ j _ ty _ h3]
 simp [hp]
def smV (l:List Int):Int × Int:=money_Sum.v l
def sumR (c:List SV) (n m:Nat):Rd Out:=.opt (intsOf c) fun l=>.br (Nat.beq l.length n && Nat.beq l.length m && okLen l) (.ret ⟨.tup [.v (.int .i64 (smV l).1),.v (.int .i64 (smV l).2)],[]⟩) .fail
def cSum:Con:=fun args _=>match args with
 | [.slc id 1 0 n (some m)]=>.obj id fun o=>match o with
  | .cells _ c=>sumR c n m
  | .ro _ c=>sumR c n m
  | _=>.fail
 | _=>.fail
theorem sumR_run {c:List SV} {n m:Nat} {h:Hp} {out:Out} {ids:List Nat} (hr:(sumR c n m).run h=some (out,ids)) :
 ∃ l,intsOf c=some l∧l.length=n∧l.length=m∧l.length≤9223372036854775807∧out=⟨.tup [.v (.int .i64 (smV l).1),.v (.int .i64 (smV l).2)],[]⟩:=by
 unfold sumR at hr
 cases hl:intsOf c with
 | none=>rw [hl] at hr;cases hr
 | some l =>
  rw [hl] at hr
  obtain ⟨hb,hr⟩:=br_run (h:=h) hr
  cases hr
  simp only [Bool.and_eq_true] at hb
  obtain ⟨⟨b1,b2⟩,b3⟩:=hb
  exact ⟨l,rfl,Nat.eq_of_beq_eq_true b1,Nat.eq_of_beq_eq_true b2,Nat.le_of_ble_eq_true b3,rfl⟩
theorem sum_gives {B:Nat→Prop} {ρ:Rho} {h:Hp} {w:World} {lo id ty n m:Nat} {c:List SV} {out:Out} {ids:List Nat} (hrh:HR B ρ h w) (up:∀ b,w.heap.size≤b→B b) (hk:OK ρ w (ρ id) (.cells ty c)) (hr:(sumR c n m).run h=some (out,ids)) :
 CallGives Try.prog 51 (denL ρ [.slc id 1 0 n (some m)]).toArray w fun v w'=>∃ ρ',Made B ρ h w lo (lo+wide) out ρ' v w':=by
 obtain ⟨l,hl,b1,b2,b3,rfl⟩:=sumR_run hr
 subst b1
 subst b2
 obtain ⟨d1,d2⟩:=C_of_cells hk hl b3
 have hargs:(denL ρ [.slc id 1 0 l.length (some l.length)]).toArray = #[.slice (some ⟨(ρ id).blk,0,none⟩) l.length l.length]:=by
  show (#[den ρ (.slc id 1 0 l.length (some l.length))]:Array Value)=_
  rw [d1]
 rw [hargs]
 exact gives_same (s:=.tup [.v (.int .i64 (smV l).1),.v (.int .i64 (smV l).2)]) (fn:=Try.f51) Try.func51 (by kernel_rfl) (by kernel_rfl) hrh up (money_Sum.calls _ _ l _ _ w d2 (Nat.le_refl _) rfl)
theorem cSum_ok (B):ConOk Try.prog B 51 cSum:=by
 intro args ρ h w lo out ids hr hrh hfr hfa up
 unfold cSum at hr
 split at hr
 · rename_i id n m
   obtain ⟨o,ids',ho,hr⟩:=obj_run hr
   split at hr
   · exact sum_gives hrh up (hrh.ok id _ ho) hr
   · rename_i ty c
     have hk:=hrh.ok id _ ho
     exact sum_gives (ty:=ty) hrh up ⟨hk.1,hk.2.1,hk.2.2⟩ hr
   · cases hr
 · cases hr
def CSum:FuncId→Option Con
 | 51=>some cSum
 | _=>none
theorem CSum_ok:∀ B' g φ,CSum g=some φ→ConOk Try.prog B' g φ:=by
 intro B' g φ h
 unfold CSum at h
 split at h
 · cases h;exact cSum_ok B'
 · cases h
def cTotal:Con:=fun args _=>match args with
 | [.slc id 1 0 n (some m)]=>.obj id fun o=>match o with
  | .cells _ c=>sumR c n m
  | .ro _ c=>sumR c n m
  | _=>.fail
 | _=>.fail
theorem total_tree (ty:Nat) (c:List SV) (n m:Nat):evFn Try.prog CSum cn0 4 Try.f79 [.slc 0 1 0 n (some m)] [(0,.ro ty c)] 1 K1 =
 obnd (intsOf c) fun l=>sel (Nat.beq l.length n && Nat.beq l.length m && okLen l) (some (.tup [.v (.int .i64 (smV l).1),.v (.int .i64 (smV l).2)])) none:=by kernel_rfl
theorem total_gives {B:Nat→Prop} {ρ:Rho} {h:Hp} {w:World} {lo id ty n m:Nat} {c:List SV} {out:Out} {ids:List Nat} {o:AObj} (hrh:HR B ρ h w) (up:∀ b,w.heap.size≤b→B b) (ho:look h id=some o) (hk:o = .cells ty c∨o = .ro ty c) (hr:(sumR c n m).run h=some (out,ids)) :
 CallGives Try.prog 79 (denL ρ [.slc id 1 0 n (some m)]).toArray w fun v w'=>∃ ρ',Made B ρ h w lo (lo+wide) out ρ' v w':=by
 obtain ⟨l,hl,b1,b2,b3,rfl⟩:=sumR_run hr
 have hc:c=l.map (fun a=>SV.v (.int .i64 a)):=by
  clear hk hr b1 b2 b3
  induction c generalizing l with
  | nil=>cases hl;rfl
  | cons s c ih =>
   simp only [intsOf] at hl
   split at hl
   · split at hl
     · rename_i r hr
       cases hl
       rw [ih r hr];rfl
     · cases hl
   · cases hl
 have hren:renL (fun i=>i) c=c:=renL_id c
 have hlt:ltL 1 c=true:=by
  rw [hc]
  clear hc hl b1 b2 b3 hr
  induction l with
  | nil=>rfl
  | cons a l ih=>simp only [List.map_cons,ltL,ih];rfl
 have hren':renL (fun _=>id) c=c:=by
  rw [hc]
  clear hc hl b1 b2 b3 hr hlt hren
  induction l with
  | nil=>rfl
  | cons a l ih=>simp only [List.map_cons,renL,ih];rfl
 have ht:evFn Try.prog CSum cn0 4 Try.f79 [.slc 0 1 0 n (some m)] [(0,.ro ty c)] 1 K1=some (.tup [.v (.int .i64 (smV l).1),.v (.int .i64 (smV l).2)]):=by
  rw [total_tree,hl,obnd_some,b1]
  rw [b1] at b2
  subst b2
  rw [show okLen l=true from Nat.ble_eq_true_of_le b3,Nat.beq_refl];rfl
 exact con_reads (B:=B) mixed Try.func79 (by kernel_rfl) rfl CSum_ok (fun B' w=>cn0_ok B' w _) [.slc 0 1 0 n (some m)] (fun _=>id) [(0,.ro ty c)] 1 _ K1_spec ht ρ h w lo hrh up rfl
  (fun i oc hi=>by
   simp only [look] at hi
   by_cases e:0=i
   · subst e;cases hi;exact ⟨by decide,hlt⟩
   · rw [beq_no e] at hi;cases hi)
  (fun i oc hi=>by
   simp only [look] at hi
   by_cases e:0=i
   · subst e
     cases hi
     refine ⟨o,ho,?_⟩
     simp only [Reads,hren']
     exact hk
   · rw [beq_no e] at hi;cases hi)
theorem cTotal_ok (B):ConOk Try.prog B 79 cTotal:=by
 intro args ρ h w lo out ids hr hrh hfr hfa up
 unfold cTotal at hr
 split at hr
 · rename_i id n m
   obtain ⟨o,ids',ho,hr⟩:=obj_run hr
   split at hr
   · exact total_gives hrh up ho (.inl rfl) hr
   · exact total_gives hrh up ho (.inr rfl) hr
   · cases hr
 · cases hr
def CTot:FuncId→Option Con
 | 79=>some cTotal
 | _=>none
theorem CTot_ok:∀ B' g φ,CTot g=some φ→ConOk Try.prog B' g φ:=by
 intro B' g φ h
 unfold CTot at h
 split at h
 · cases h;exact cTotal_ok B'
 · cases h
theorem add_tree (a b:Int):evFn Try.prog CTot cn0 4 Try.f74 [.v (.int .i64 a),.v (.int .i64 b)] [] 0 K1=some (.tup [.v (.int .i64 (smV [a,b]).1),.v (.int .i64 (smV [a,b]).2)]):=by kernel_rfl
def cAdd:Con:=fun args _=>match args with
 | [.v (.int .i64 a),.v (.int .i64 b)]=>.ret ⟨.tup [.v (.int .i64 (smV [a,b]).1),.v (.int .i64 (smV [a,b]).2)],[]⟩
 | _=>.fail
theorem cAdd_ok:∀ B,ConOk Try.prog B 74 cAdd:=con_pure mixed Try.func74 (by kernel_rfl) rfl CTot_ok (fun B' w=>cn0_ok B' w _) (by
 intro args lo h out ids hr
 unfold cAdd at hr
 split at hr
 · rename_i a b
   cases hr
   exact ⟨rfl,rfl,add_tree a b⟩
 · cases hr)
end Go.Proofs.Ytlfkfajodnkkhaa.Ax
namespace Go.Proofs.Ytlfkfajodnkkhaa.Sh
open Go Go.RowKit Go.Proofs.YtlfkfajodnkkhaaW.PrintWords Go.Proofs.Ytlfkfajodnkkhaa.Ax
set_option linter.unusedVariables false
set_option linter.unusedSimpArgs false
noncomputable abbrev fMx:Func:=Try.f40
def T35:Nat→Option (List Nat × List (Nat × TypeId × List Sc))
 | 5=>some ([0,3,4],[])
 | _=>none
noncomputable def L35 (F kk:Nat) (l:List Int) (m i:Int):Option (Int × Unit):=loopAt (eff Try.prog (fun _=>none)) fMx.ntmps (cnRow 1 T35) F Try.prog fMx (KX [qInt]) [.R,.R,.R,.L,.R,.D] kk
 ⟨[(0,.all 0),(3,vi m),(4,vi i)],[(0,.arg sI l)],2⟩
theorem L35_eq (F kk:Nat) (l:List Int) (m i:Int):L35 F (kk+1) l m i=sel (decide (i<(l.length:Int))) (idxP l i (L35 F kk l (Ax.mx m (rI l i)) (IT.wrap (i+1)))) (some (m,())):=by kernel_rfl
theorem max_tree (F:Nat) (l:List Int):evX Try.prog (fun _=>none) (cnRow 1 T35) F fMx [qInts] [qInt] (l,())=sel (decide ((l.length:Int)<1)) none (idxP l 0 (L35 F F l (rI l 0) 1)):=by kernel_rfl
noncomputable def C50:FuncId→Option Con
 | 54=>some Ax.cMul
 | _=>none
theorem C50_ok:∀ B' g φ,C50 g=some φ→ConOk Try.prog B' g φ:=by
 intro B' g φ h
 unfold C50 at h
 split at h
 · cases h;exact Ax.cMul_ok B'
 · cases h
def mulW (a b:Int):Option (Int × Int × Unit):=sel (Ax.u64B a && Ax.u64B b) (some (Ax.mulHi a b,Ax.mulLo a b,())) none
theorem mul50_tree (a b:Int):evX Try.prog C50 cn0 40 Try.f57 [qU,qU] [qU,qU] (a,b,())=mulW a b:=by kernel_rfl
noncomputable def cMulU:Con:=conX [qU,qU] [qU,qU] fun x=>mulW x.1 x.2.1
theorem cMulU_ok (B):ConOk Try.prog B 57 cMulU :=
 toldP (lin:=[qU,qU]) (lout:=[qU,qU]) C50_ok Try.func57 (by kernel_rfl) (by kernel_rfl) (fun x=>mulW x.1 x.2.1) (fun x y h=>by
  obtain ⟨a,b,u⟩:=x
  exact (mul50_tree a b).trans h) (by decide) B
noncomputable def C34g (g:Int→Int→Option (Int × Int × Unit)):FuncId→Option Con
 | 57=>some (conX [qU,qU] [qU,qU] fun x=>g x.1 x.2.1)
 | _=>none
noncomputable def C34:FuncId→Option Con:=C34g mulW
theorem C34_ok:∀ B' g φ,C34 g=some φ→ConOk Try.prog B' g φ:=by
 intro B' g φ h
 unfold C34 C34g at h
 split at h
 · cases h;exact cMulU_ok B'
 · cases h
noncomputable abbrev fRp:Func:=Try.f41
def T34:Nat→Option (List Nat × List (Nat × TypeId × List Sc))
 | 8=>some ([7,8],[])
 | _=>none
abbrev OL:=Option (List Int × Unit)
noncomputable def L34 (g:Int→Int→Option (Int × Int × Unit)) (F kk:Nat) (x l:List Int) (n:Int):OL:=loopAt (eff Try.prog (C34g g)) fRp.ntmps (cnRow 1 T34) F Try.prog fRp (KX [qInts]) [.R,.R,.R,.R,.R,.R,.L,.D] kk
 ⟨[(7,.all 1),(8,vi n)],[(0,.arg sI x),(1,.row tI sI l)],3⟩
def cpN (l:List Int) (n:Int):Nat:=Nat.min n.toNat (l.length - n.toNat)
def cp34 (l:List Int) (n:Int):List Int:=l.take n.toNat ++ ((l.drop 0).take (cpN l n) ++ l.drop (n.toNat+cpN l n))
theorem L34_eq (g:Int→Int→Option (Int × Int × Unit)) (F kk:Nat) (x l:List Int) (n:Int):L34 g F (kk+1) x l n=sel (decide (n<(l.length:Int)))
 (sel (decide (0≤n)) (sel (decide (n<(l.length:Int))) (sel (decide (0≤n)) (sel (decide (n≤(l.length:Int)))
  (sel (Nat.blt 0 l.length && (Nat.blt 0 l.length && (Nat.ble (n.toNat+(l.length - n.toNat)) l.length && Nat.ble (0+n.toNat) l.length)))
   (L34 g F kk x (cp34 l n) (IT.wrap (n+((cpN l n:Nat):Int)))) none) none) none) none) none) (some (l,())):=by kernel_rfl
def hd34 (x:List Int) (m:Int):List Int:=List.take 0 (List.replicate m.toNat (0:Int)) ++ ((x.drop 0).take (Nat.min x.length (List.replicate m.toNat (0:Int)).length) ++ (List.replicate m.toNat (0:Int)).drop (0+Nat.min x.length (List.replicate m.toNat (0:Int)).length))
noncomputable def rep2 (g:Int→Int→Option (Int × Int × Unit)) (F:Nat) (x:List Int) (m:Int) (x2:List Int):OL :=
 sel (Nat.blt 0 (List.replicate m.toNat (0:Int)).length && (Nat.blt 0 x2.length && (Nat.ble (0+(List.replicate m.toNat (0:Int)).length) (List.replicate m.toNat (0:Int)).length && Nat.ble (0+x2.length) x2.length)))
  (L34 g F F x (hd34 x2 m) ((Nat.min x2.length (List.replicate m.toNat (0:Int)).length:Nat):Int)) none
theorem repeat_tree (g:Int→Int→Option (Int × Int × Unit)) (F:Nat) (x:List Int) (n:Int):evX Try.prog (C34g g) (cnRow 1 T34) F fRp [qInts,qInt] [qInts] (x,n,()) =
 sel (decide (n<0)) none (obnd (Ax.decS (.int .u64) (.v (.int .u64 (IntKind.u64.wrap (x.length:Int))))) fun y0=>obnd (Ax.decS (.int .u64) (.v (.int .u64 (IntKind.u64.wrap n)))) fun y1=>obnd (g y0 y1) fun y=>sel (decide (0<y.1)) none (sel (decide (9223372036854775807<y.2.1)) none
  (sel (decide (0≤IntKind.i64.wrap y.2.1) && decide (IntKind.i64.wrap y.2.1≤1000000000)) (sel (decide (IntKind.i64.wrap y.2.1=IntKind.i64.wrap y.2.1))
   (obnd (Ax.castO sI (Ax.AObj.arg sI x)) fun x2=>rep2 g F x (IntKind.i64.wrap y.2.1) x2) none) none))):=by kernel_rfl
theorem decS_b {β:Type} (x:Int) (f:Sc.T (.int .u64)→Option β):obnd (Ax.decS (.int .u64) (.v (.int .u64 x))) f=f x:=by kernel_rfl
theorem castO_b {β:Type} (x:List Int) (f:List (TT sI)→Option β):obnd (Ax.castO sI (Ax.AObj.arg sI x)) f=f x:=by kernel_rfl
theorem wr2 {a b:Nat} (h:a+b≤1000000):IT.wrap ((a:Int)+((b:Nat):Int))=((a+b:Nat):Int):=by
 show IntKind.i64.wrap _=_
 rw [IntKind.wrap_i64];omega
theorem ob_some {α β:Type} (a:α) (f:α→Option β):obnd (some a) f=f a:=rfl
def ones (N c:Nat):List Int:=List.replicate c (1:Int) ++ List.replicate (N - c) (0:Int)
theorem ones_len (N c:Nat) (h:c≤N):(ones N c).length=N:=by unfold ones;rw [List.length_append,List.length_replicate,List.length_replicate];omega
theorem ones_cp (N c k:Nat) (hk:k≤c) (h:c+k≤N):(ones N c).take c ++ ((ones N c).take k ++ (ones N c).drop (c+k))=ones N (c+k):=by
 have e1:(ones N c).take c=List.replicate c (1:Int):=by unfold ones;exact List.take_left' (List.length_replicate ..)
 have e2:(ones N c).take k=List.replicate k (1:Int):=by
  unfold ones
  rw [List.take_append_of_le_length (by rw [List.length_replicate];exact hk),List.take_replicate,Nat.min_eq_left hk]
 have e3:(ones N c).drop (c+k)=List.replicate (N - (c+k)) (0:Int):=by
  unfold ones
  rw [List.drop_append,List.length_replicate,List.drop_replicate,List.drop_replicate,Nat.sub_eq_zero_of_le (Nat.le_add_right c k),Nat.add_sub_cancel_left,List.replicate_zero,List.nil_append,Nat.sub_sub]
 rw [e1,e2,e3,← List.append_assoc,List.replicate_append_replicate]
 rfl
theorem L34_run (g:Int→Int→Option (Int × Int × Unit)) (F:Nat) (x:List Int) (N:Nat) (hN:N≤1000):∀ (d c kk:Nat),1≤c→c≤N→N - c≤d→d<kk→L34 g F kk x (ones N c) c=some (List.replicate N (1:Int),()):=by
 intro d
 induction d with
 | zero =>
  intro c kk h1 h2 h3 hk
  obtain ⟨k,rfl⟩:∃ k,kk=k+1:=⟨kk - 1,by omega⟩
  obtain rfl:c=N:=by omega
  rw [L34_eq,decide_eq_false (by rw [ones_len c c h2];omega),sel_false]
  unfold ones
  rw [Nat.sub_self,List.replicate_zero,List.append_nil]
 | succ d ih =>
  intro c kk h1 h2 h3 hk
  obtain ⟨k,rfl⟩:∃ k,kk=k+1:=⟨kk - 1,by omega⟩
  have hl:=ones_len N c h2
  by_cases hc:c=N
  · subst hc
    rw [L34_eq,decide_eq_false (by rw [hl];omega),sel_false]
    unfold ones
    rw [Nat.sub_self,List.replicate_zero,List.append_nil]
  · have hcp:cpN (ones N c) c=min c (N - c):=by unfold cpN;rw [hl,Int.toNat_natCast]
    have hm:min c (N - c)≤c:=Nat.min_le_left _ _
    have hm2:min c (N - c)≤N - c:=Nat.min_le_right _ _
    have hm3:1≤min c (N - c):=by omega
    have e1:cp34 (ones N c) c=ones N (c+min c (N - c)):=by
     unfold cp34
     rw [hcp,Int.toNat_natCast,List.drop_zero]
     exact ones_cp N c _ hm (by omega)
    have e2:IT.wrap ((c:Int)+((min c (N - c):Nat):Int))=((c+min c (N - c):Nat):Int):=wr2 (by omega)
    have hb:(Nat.blt 0 (ones N c).length && (Nat.blt 0 (ones N c).length && (Nat.ble ((c:Int).toNat+((ones N c).length - (c:Int).toNat)) (ones N c).length && Nat.ble (0+(c:Int).toNat) (ones N c).length)))=true:=by
     rw [hl,Int.toNat_natCast]
     simp only [Bool.and_eq_true,Nat.blt,Nat.ble_eq]
     omega
    rw [L34_eq,hb,e1,hcp,e2,decide_eq_true (by omega),sel_true,decide_eq_true (by omega),sel_true,sel_true,sel_true,decide_eq_true (by omega),sel_true,sel_true]
    exact ih _ k (by omega) (by omega) (by omega) (by omega)
def repV (l:List Int) (n:Int):OL:=bif decide (l=[(1:Int)]) && (decide (1≤n) && decide (n≤256)) then some (List.replicate n.toNat (1:Int),()) else none
theorem rep_run (l:List Int) (n:Int) (y:List Int × Unit) (h:repV l n=some y):evX Try.prog C34 (cnRow 1 T34) 300 fRp [qInts,qInt] [qInts] (l,n,())=some y:=by
 unfold repV at h
 cases hb:decide (l=[(1:Int)]) && (decide (1≤n) && decide (n≤256)) with
 | false=>rw [hb] at h;cases h
 | true =>
  rw [hb] at h
  rw [← Option.some.inj h]
  simp only [Bool.and_eq_true,decide_eq_true_eq] at hb
  obtain ⟨rfl,h1,h2⟩:=hb
  have hm:mulW (IntKind.u64.wrap (([(1:Int)].length:Nat):Int)) (IntKind.u64.wrap n)=some (0,n,()):=by
   have w1:IntKind.u64.wrap (([(1:Int)].length:Nat):Int)=1:=by rw [IntKind.wrap_u64];rfl
   have w2:IntKind.u64.wrap n=n:=by rw [IntKind.wrap_u64];omega
   rw [w1,w2]
   unfold mulW
   have hu:(Ax.u64B 1 && Ax.u64B n)=true:=by
    rw [Bool.and_eq_true,Ax.u64B_iff,Ax.u64B_iff];omega
   have a1:Ax.mulHi 1 n=0:=by unfold Ax.mulHi;omega
   have a2:Ax.mulLo 1 n=n:=by unfold Ax.mulLo;omega
   rw [hu,sel_true,a1,a2]
  have hw:IntKind.i64.wrap n=n:=by rw [IntKind.wrap_i64];omega
  obtain ⟨N,rfl⟩:∃ N:Nat,n=(N:Int):=⟨n.toNat,by omega⟩
  refine (repeat_tree mulW 300 [(1:Int)] (N:Int)).trans ?_
  rw [decide_eq_false (by omega),sel_false,decS_b,decS_b,hm,ob_some]
  dsimp only
  rw [decide_eq_false (by omega),sel_false,decide_eq_false (by omega),sel_false,hw,decide_eq_true (by omega),decide_eq_true (by omega),Bool.true_and,sel_true,decide_eq_true rfl,sel_true,castO_b]
  unfold rep2
  have hmin:Nat.min [(1:Int)].length (List.replicate (N:Int).toNat (0:Int)).length=1:=by
   rw [List.length_replicate,Int.toNat_natCast];show Nat.min 1 N=1;exact Nat.min_eq_left (by omega)
  have hh:hd34 [(1:Int)] (N:Int)=ones N 1:=by
   unfold hd34
   rw [hmin,Int.toNat_natCast,List.drop_replicate]
   rfl
  have hb:(Nat.blt 0 (List.replicate (N:Int).toNat (0:Int)).length && (Nat.blt 0 [(1:Int)].length && (Nat.ble (0+(List.replicate (N:Int).toNat (0:Int)).length) (List.replicate (N:Int).toNat (0:Int)).length && Nat.ble (0 + [(1:Int)].length) [(1:Int)].length)))=true:=by
   rw [List.length_replicate,Int.toNat_natCast]
   simp only [Bool.and_eq_true,Nat.blt,Nat.ble_eq,List.length_singleton]
   omega
  rw [hb,sel_true,hmin,hh]
  exact L34_run mulW 300 [(1:Int)] N (by omega) N 1 300 (by omega) (by omega) (by omega) (by omega)
noncomputable def cRep:Con:=conX [qInts,qInt] [qInts] fun x=>repV x.1 x.2.1
theorem cRep_ok (B):ConOk Try.prog B 41 cRep :=
 conX_ok mixed Try.func41 (by kernel_rfl) (by kernel_rfl) C34_ok (fun B' w=>cnRow_ok (pin:=1) (T:=T34)) [qInts,qInt] [qInts] (by decide) (fun _=>300) (fun x=>repV x.1 x.2.1) (fun x y h=>by
  obtain ⟨l,n,u⟩:=x
  exact rep_run l n y h) B
theorem L35_run (F:Nat) (l:List Int) (hl:l.length≤1000):∀ (n i kk:Nat) (m:Int),i+n=l.length→n<kk→L35 F kk l m i=some ((l.drop i).foldl Ax.mx m,()):=by
 intro n
 induction n with
 | zero =>
  intro i kk m hi hk
  obtain ⟨k,rfl⟩:∃ k,kk=k+1:=⟨kk - 1,by omega⟩
  rw [L35_eq,decide_eq_false (by omega),sel_false,List.drop_eq_nil_of_le (by omega)];rfl
 | succ n ih =>
  intro i kk m hi hk
  obtain ⟨k,rfl⟩:∃ k,kk=k+1:=⟨kk - 1,by omega⟩
  have hlt:i<l.length:=by omega
  have e3:IT.wrap ((i:Int)+1)=((i+1:Nat):Int):=by rw [wr (by omega) (by omega)];omega
  rw [L35_eq,decide_eq_true (by omega),sel_true,idxI l i (by omega) (by omega),e3,ih (i+1) k _ (by omega) (by omega),rI_at l i hlt,List.drop_eq_getElem_cons hlt,List.foldl_cons]
def mxOf (l:List Int):Int:=(l.drop 1).foldl Ax.mx (rI l 0)
def maxV (l:List Int):Option (Int × Unit):=bif decide (1≤l.length) && decide (l.length≤1000) then some (mxOf l,()) else none
theorem max_run (l:List Int) (y:Int × Unit) (h:maxV l=some y):evX Try.prog (fun _=>none) (cnRow 1 T35) 1100 fMx [qInts] [qInt] (l,())=some y:=by
 unfold maxV at h
 cases hb:decide (1≤l.length) && decide (l.length≤1000) with
 | false=>rw [hb] at h;cases h
 | true =>
  rw [hb] at h
  rw [← h]
  simp only [Bool.and_eq_true,decide_eq_true_eq] at hb
  obtain ⟨h1,h2⟩:=hb
  rw [max_tree,decide_eq_false (by omega),sel_false,idxI l 0 (by omega) (by show 0<_;omega)]
  exact L35_run 1100 l h2 (l.length - 1) 1 1100 (rI l 0) (by omega) (by omega)
noncomputable def cMax:Con:=conX [qInts] [qInt] fun x=>maxV x.1
theorem cMax_ok (B):ConOk Try.prog B 40 cMax :=
 conX_ok mixed Try.func40 (by kernel_rfl) (by kernel_rfl) none_ok (fun B' w=>cnRow_ok (pin:=1) (T:=T35)) [qInts] [qInt] (by decide) (fun _=>1100) (fun x=>maxV x.1) (fun x y h=>by
  obtain ⟨l,u⟩:=x
  exact max_run l y h) B
end Go.Proofs.Ytlfkfajodnkkhaa.Sh
namespace Go.Proofs.Ytlfkfajodnkkhaa.Ax
open Go Go.RowKit
set_option linter.unusedVariables false
set_option linter.unusedSimpArgs false
def CMul:FuncId→Option Con
 | 54=>some cMul
 | _=>none
theorem CMul_ok:∀ B' g φ,CMul g=some φ→ConOk Try.prog B' g φ:=by
 intro B' g φ h
 unfold CMul at h
 split at h
 · cases h;exact cMul_ok B'
 · cases h
theorem times_tree (a b:Int):evFn Try.prog CMul cn0 4 Try.f83 [.v (.int .u64 a),.v (.int .u64 b)] [] 0 K1 =
 sel (u64B a && u64B b) (some (.agg [.v (.int .u64 (mulHi a b)),.v (.int .u64 (mulLo a b))])) none:=by kernel_rfl
def cTimes:Con:=fun args _=>match args with
 | [.v (.int .u64 a),.v (.int .u64 b)]=>.br (u64B a && u64B b) (.ret ⟨.agg [.v (.int .u64 (mulHi a b)),.v (.int .u64 (mulLo a b))],[]⟩) .fail
 | _=>.fail
theorem cTimes_ok:∀ B,ConOk Try.prog B 83 cTimes:=con_pure mixed Try.func83 (by kernel_rfl) rfl CMul_ok (fun B' w=>cn0_ok B' w _) (by
 intro args lo h out ids hr
 unfold cTimes at hr
 split at hr
 · rename_i a b
   obtain ⟨hb,hr⟩:=br_run hr
   cases hr
   refine ⟨rfl,rfl,?_⟩
   rw [times_tree,hb]
   rfl
 · cases hr)
def CDiv:FuncId→Option Con
 | 55=>some cDiv
 | _=>none
theorem CDiv_ok:∀ B' g φ,CDiv g=some φ→ConOk Try.prog B' g φ:=by
 intro B' g φ h
 unfold CDiv at h
 split at h
 · cases h;exact cDiv_ok B'
 · cases h
theorem by_tree (a b c:Int):evFn Try.prog CDiv cn0 4 Try.f85 [.agg [.v (.int .u64 a),.v (.int .u64 b)],.v (.int .u64 c)] [] 0 K1 =
 sel (decide (c≤a)) (some (.tup [.v (.int .u64 0),.v (.int .u64 0),.v (.bool false)]))
  (sel (divOk a b c) (some (.tup [.v (.int .u64 (divQ a b c)),.v (.int .u64 (divR a b c)),.v (.bool true)])) none):=by kernel_rfl
def byV (a b c:Int):Int × Int × Bool:=bif decide (c≤a) then (0,0,false) else (divQ a b c,divR a b c,true)
def cBy:Con:=fun args _=>match args with
 | [.agg [.v (.int .u64 a),.v (.int .u64 b)],.v (.int .u64 c)]=>.br (decide (0≤a) && (u64B b && u64B c)) (.ret ⟨.tup [.v (.int .u64 (byV a b c).1),.v (.int .u64 (byV a b c).2.1),.v (.bool (byV a b c).2.2)],[]⟩) .fail
 | _=>.fail
theorem cBy_ok:∀ B,ConOk Try.prog B 85 cBy:=con_pure mixed Try.func85 (by kernel_rfl) rfl CDiv_ok (fun B' w=>cn0_ok B' w _) (by
 intro args lo h out ids hr
 unfold cBy at hr
 split at hr
 · rename_i a b c
   obtain ⟨hb,hr⟩:=br_run hr
   cases hr
   refine ⟨rfl,rfl,?_⟩
   rw [by_tree]
   simp only [Bool.and_eq_true,u64B_iff,decide_eq_true_eq] at hb
   unfold byV
   by_cases h:c≤a
   · rw [decide_eq_true h];rfl
   · have:divOk a b c=true:=by
      simp only [divOk,Bool.and_eq_true,u64B_iff,decide_eq_true_eq]
      omega
     rw [decide_eq_false h,this];rfl
 · cases hr)
def signV (a b n:Int):Int:=bif (decide (a<0) == decide (b<0)) then n else IntKind.i64.wrap (0 - n)
def cSigned:Con:=fun args _=>match args with
 | [.v (.int .i64 n),.ptr i 0,.ptr j 0]=>.obj i fun o=>match o with
  | .cells 3 [.v (.int .i64 a)]=>.obj j fun o=>match o with
   | .cells 3 [.v (.int .i64 b)]=>.ret ⟨.v (.int .i64 (signV a b n)),[]⟩
   | _=>.fail
  | _=>.fail
 | _=>.fail
theorem signed_tree (a b n:Int):evFn Try.prog C0 cn0 4 Try.f82 [.v (.int .i64 n),.ptr 0 0,.ptr 1 0] [(0,.ro 3 [.v (.int .i64 a)]),(1,.ro 3 [.v (.int .i64 b)])] 2 K1 =
 sel (!(decide (a<0) == decide (b<0))) (some (.v (.int .i64 (IntKind.i64.wrap (0 - n))))) (some (.v (.int .i64 n))):=by kernel_rfl
theorem cSigned_ok:∀ B,ConOk Try.prog B 82 cSigned:=by
 intro B args ρ h w lo out ids hr hrh hfree hargs up
 unfold cSigned at hr
 split at hr
 · rename_i n i j
   obtain ⟨o,ids',hl,hr⟩:=obj_run hr
   split at hr
   · rename_i a
     obtain ⟨o',ids'',hl',hr⟩:=obj_run hr
     split at hr
     · rename_i b
       cases hr
       have ht:evFn Try.prog C0 cn0 4 Try.f82 [.v (.int .i64 n),.ptr 0 0,.ptr 1 0] [(0,.ro 3 [.v (.int .i64 a)]),(1,.ro 3 [.v (.int .i64 b)])] 2 K1=some (.v (.int .i64 (signV a b n))):=by
        rw [signed_tree]
        unfold signV
        cases (decide (a<0) == decide (b<0))<;>rfl
       have:=con_reads (B:=B) mixed Try.func82 (by kernel_rfl) rfl C0_ok (fun B' w=>cn0_ok B' w _) [.v (.int .i64 n),.ptr 0 0,.ptr 1 0] (fun k=>if k=0 then i else j) _ 2 _ K1_spec ht ρ h w lo hrh up rfl
        (fun k oc hi=>by
         simp only [look] at hi
         by_cases e:0=k
         · subst e;cases hi;exact ⟨by decide,rfl⟩
         · rw [beq_no e] at hi
           by_cases e':1=k
           · subst e';cases hi;exact ⟨by decide,rfl⟩
           · rw [beq_no e'] at hi;cases hi)
        (fun k oc hi=>by
         simp only [look] at hi
         by_cases e:0=k
         · subst e;cases hi;exact ⟨_,hl,.inl rfl⟩
         · rw [beq_no e] at hi
           by_cases e':1=k
           · subst e';cases hi;exact ⟨_,hl',.inl rfl⟩
           · rw [beq_no e'] at hi;cases hi)
       exact this
     · cases hr
   · cases hr
 · cases hr
def CWide:FuncId→Option Con
 | 81=>some cRight
 | 84=>some cSize
 | 83=>some cTimes
 | 85=>some cBy
 | 86=>some cTold
 | 82=>some cSigned
 | 35=>some cMay
 | _=>none
theorem CWide_ok:∀ B' g φ,CWide g=some φ→ConOk Try.prog B' g φ:=by
 intro B' g φ h
 unfold CWide at h
 split at h
 · cases h;exact cRight_ok B'
 · cases h;exact cSize_ok B'
 · cases h;exact cTimes_ok B'
 · cases h;exact cBy_ok B'
 · cases h;exact cTold_ok B'
 · cases h;exact cSigned_ok B'
 · cases h;exact cMay_ok B'
 · cases h
end Go.Proofs.Ytlfkfajodnkkhaa.Ax
namespace Go.Proofs.Ytlfkfajodnkkhaa.Ax
open Go Go.RowKit
set_option linter.unusedVariables false
set_option linter.unusedSimpArgs false
theorem mayB_iff (a:Int):mayB a=true↔-4611686018427387904≤a∧a≤4611686018427387904:=by simp [mayB]
theorem rightV_iff (a b c:Int):rightV a b c=true↔(-4611686018427387904≤a∧a≤4611686018427387904)∧(-4611686018427387904≤b∧b≤4611686018427387904)∧1≤c∧c≤4611686018427387904:=by
 simp only [rightV,Bool.and_eq_true,mayB_iff,decide_eq_true_eq]
 omega
def mag (a:Int):Int:=if a<0 then -a else a
theorem mag_bd {a:Int} (h : -4611686018427387904≤a∧a≤4611686018427387904):0≤mag a∧mag a≤4611686018427387904:=by unfold mag;split<;>omega
theorem sizeV_eq {a:Int} (h : -4611686018427387904≤a∧a≤4611686018427387904):sizeV a=mag a:=by
 unfold sizeV mag
 by_cases h0:a<0
 · rw [decide_eq_true h0,if_pos h0];simp only [cond_true];rw [wrapU64,wrapU64];omega
 · rw [decide_eq_false h0,if_neg h0];simp only [cond_false];rw [wrapU64];omega
def halfV (p c:Int):Int:=(2 * p+c) / (2 * c)
def overV (n:Int) (r:Int):Int × Int:=if n≤4611686018427387904 then (r,0) else (0,3)
def mulDivV (a b c:Int):Int × Int :=
 if rightV a b c=true then overV (halfV (mag a * mag b) c) (if decide (a<0)=decide (b<0) then halfV (mag a * mag b) c else -halfV (mag a * mag b) c) else (0,2)
theorem quo_facts (p c:Int) (hp:0≤p) (hc:0<c):0≤p / c∧0≤p % c∧p % c<c∧p=c * (p / c)+p % c :=
 ⟨Int.ediv_nonneg hp (by omega),Int.emod_nonneg _ (by omega),Int.emod_lt_of_pos _ hc,(Int.mul_ediv_add_emod p c).symm⟩
theorem half_eq (p c:Int) (hp:0≤p) (hc:0<c):halfV p c=p / c+(if c≤2 * (p % c) then 1 else 0):=by
 obtain ⟨h1,h2,h3,h4⟩:=quo_facts p c hp hc
 unfold halfV
 have e:2 * p+c=(2 * (p % c)+c)+(p / c) * (2 * c):=by
  have:(p / c) * (2 * c)=2 * (c * (p / c)):=by rw [Int.mul_comm (p / c),Int.mul_assoc]
  omega
 rw [e,Int.add_mul_ediv_right _ _ (by omega)]
 split
 · have:(2 * (p % c)+c) / (2 * c)=1:=by
    have g1:(2 * (p % c)+c) / (2 * c)<2:=Int.ediv_lt_of_lt_mul (by omega) (by omega)
    have g2:1≤(2 * (p % c)+c) / (2 * c):=(Int.le_ediv_iff_mul_le (by omega)).2 (by omega)
    omega
   omega
 · have:(2 * (p % c)+c) / (2 * c)=0:=Int.ediv_eq_zero_of_lt (by omega) (by omega)
   omega
theorem by_eq (x y c:Int) (hx:0≤x∧x≤4611686018427387904) (hy:0≤y∧y≤4611686018427387904) (hc:1≤c∧c≤4611686018427387904) :
 (u64B x && u64B y)=true∧(decide (0≤mulHi x y) && (u64B (mulLo x y) && u64B c))=true∧
 ((byV (mulHi x y) (mulLo x y) c=(0,0,false)∧18446744073709551616≤x * y / c)∨byV (mulHi x y) (mulLo x y) c=(x * y / c,x * y % c,true)):=by
 have hp:0≤x * y:=Int.mul_nonneg hx.1 hy.1
 have hp2:x * y≤4611686018427387904 * 4611686018427387904:=Int.mul_le_mul hx.2 hy.2 hy.1 (by omega)
 have hm:mulHi x y * 18446744073709551616+mulLo x y=x * y:=by unfold mulHi mulLo;omega
 have hh:0≤mulHi x y:=by unfold mulHi;omega
 have hl:0≤mulLo x y∧mulLo x y<18446744073709551616:=by unfold mulLo;omega
 refine ⟨?_,?_,?_⟩
 · simp only [Bool.and_eq_true,u64B_iff];omega
 · simp only [Bool.and_eq_true,u64B_iff,decide_eq_true_eq];omega
 · unfold byV
   by_cases h:c≤mulHi x y
   · left
     rw [decide_eq_true h]
     refine ⟨rfl,(Int.le_ediv_iff_mul_le (by omega)).2 ?_⟩
     have:c * 18446744073709551616≤mulHi x y * 18446744073709551616:=by omega
     omega
   · right
     rw [decide_eq_false h]
     simp only [cond_false,divQ,divR,hm]
theorem told_eq (q:Int) (up:Bool) (h0:0≤q) (h1:q<18446744073709551616):toldV q up=overV (q+(if up=true then 1 else 0)) (q+(if up=true then 1 else 0)):=by
 unfold toldV overV
 by_cases h2:4611686018427387904<q
 · rw [decide_eq_true h2];cases up<;>simp only [cond_true,if_true,Bool.false_eq_true,if_false]<;>rw [if_neg (by omega)]
 · rw [decide_eq_false h2]
   simp only [cond_false]
   cases up with
   | false =>
    simp only [cond_false,Bool.false_eq_true,if_false]
    rw [if_pos (by omega),IntKind.wrap_i64]
    congr 1
    omega
   | true =>
    simp only [cond_true,if_true]
    by_cases h3:q=4611686018427387904
    · subst h3;rfl
    · have:(q == 4611686018427387904)=false:=by simpa using h3
      rw [this,if_pos (by omega),IntKind.wrap_i64,wrapU64]
      simp only [cond_false]
      congr 1
      omega
def mulDivT (a b c x y:Int) (t:Int × Int × Bool) (u:Int × Int):Option SV :=
 sel (!rightV a b c) (some (.tup [.v (.int .i64 0),.v (.int .i64 2)]))
  (sel (u64B x && u64B y) (sel (decide (0≤mulHi x y) && (u64B (mulLo x y) && u64B (IntKind.u64.wrap c)))
   (sel (!t.2.2) (some (.tup [.v (.int .i64 0),.v (.int .i64 3)]))
    (sel (u.2 != 0) (some (.tup [.v (.int .i64 0),.v (.int .i64 u.2)])) (some (.tup [.v (.int .i64 (signV a b u.1)),.v (.int .i64 0)])))) none) none)
theorem mulDiv_tree (a b c:Int):evFn Try.prog CWide cn0 8 Try.f78 [.v (.int .i64 a),.v (.int .i64 b),.v (.int .i64 c)] [] 0 K1 =
 mulDivT a b c (sizeV a) (sizeV b) (byV (mulHi (sizeV a) (sizeV b)) (mulLo (sizeV a) (sizeV b)) (IntKind.u64.wrap c))
  (toldV (byV (mulHi (sizeV a) (sizeV b)) (mulLo (sizeV a) (sizeV b)) (IntKind.u64.wrap c)).1
   (decide (IntKind.u64.wrap (IntKind.u64.wrap c - (byV (mulHi (sizeV a) (sizeV b)) (mulLo (sizeV a) (sizeV b)) (IntKind.u64.wrap c)).2.1)≤(byV (mulHi (sizeV a) (sizeV b)) (mulLo (sizeV a) (sizeV b)) (IntKind.u64.wrap c)).2.1))):=by kernel_rfl
theorem mulDiv_ev (a b c:Int):evFn Try.prog CWide cn0 8 Try.f78 [.v (.int .i64 a),.v (.int .i64 b),.v (.int .i64 c)] [] 0 K1=some (.tup [.v (.int .i64 (mulDivV a b c).1),.v (.int .i64 (mulDivV a b c).2)]):=by
 rw [mulDiv_tree]
 unfold mulDivT mulDivV
 cases hr:rightV a b c with
 | false=>rfl
 | true =>
  rw [rightV_iff] at hr
  obtain ⟨ha,hb,hc⟩:=hr
  have ma:=mag_bd ha
  have mb:=mag_bd hb
  rw [sizeV_eq ha,sizeV_eq hb,w64_in c (by omega) (by omega)]
  obtain ⟨e1,e2,e3⟩:=by_eq (mag a) (mag b) c ma mb hc
  obtain ⟨p,hp⟩:∃ p,p=mag a * mag b:=⟨_,rfl⟩
  have hp0:0≤p:=by rw [hp];exact Int.mul_nonneg ma.1 mb.1
  obtain ⟨q1,q2,q3,q4⟩:=quo_facts p c hp0 (by omega)
  have hh:=half_eq p c hp0 (by omega)
  rw [e1,e2,← hp]
  rw [← hp] at e3
  simp only [Bool.not_true,sel_true,sel_false,if_true]
  rcases e3 with ⟨e3,e4⟩|e3
  · rw [e3]
    have:¬ halfV p c≤4611686018427387904:=by rw [hh];split<;>omega
    unfold overV
    rw [if_neg this]
    rfl
  · rw [e3]
    simp only [Bool.not_true,sel_false]
    by_cases hq:p / c<18446744073709551616
    · rw [told_eq _ _ q1 hq,w64_in (c - p % c) (by omega) (by omega)]
      have ht:p / c+(if decide (c - p % c≤p % c)=true then 1 else 0)=halfV p c:=by
       rw [hh]
       by_cases h:c≤2 * (p % c)
       · rw [if_pos h,if_pos (by rw [decide_eq_true_eq];omega)]
       · rw [if_neg h,if_neg (by rw [decide_eq_true_eq];omega)]
      rw [ht]
      unfold overV
      by_cases ho:halfV p c≤4611686018427387904
      · rw [if_pos ho,if_pos ho]
        have h0:0≤halfV p c:=by rw [hh];split<;>omega
        have hsg:signV a b (halfV p c)=(if decide (a<0)=decide (b<0) then halfV p c else -halfV p c):=by
         unfold signV
         by_cases hs:decide (a<0)=decide (b<0)
         · rw [if_pos hs,beq_iff_eq.2 hs];rfl
         · rw [if_neg hs,beq_eq_false_iff_ne.2 hs]
           simp only [cond_false]
           rw [IntKind.wrap_i64]
           omega
        rw [← hsg]
        rfl
      · rw [if_neg ho,if_neg ho];rfl
    · -- the quotient has more than 64 bits: that is told before
      exfalso
      have hby:byV (mulHi (mag a) (mag b)) (mulLo (mag a) (mag b)) c=(p / c,p % c,true):=e3
      unfold byV at hby
      by_cases hcc:c≤mulHi (mag a) (mag b)
      · rw [decide_eq_true hcc] at hby
        simp at hby
      · have hm:mulHi (mag a) (mag b) * 18446744073709551616+mulLo (mag a) (mag b)=p:=by rw [hp];unfold mulHi mulLo;omega
        have hl:mulLo (mag a) (mag b)<18446744073709551616:=by unfold mulLo;omega
        have:p / c<18446744073709551616:=Int.ediv_lt_of_lt_mul (by omega) (by
         have:(mulHi (mag a) (mag b)+1) * 18446744073709551616≤c * 18446744073709551616:=by omega
         omega)
        exact hq this
def cMulDiv:Con:=fun args _=>match args with
 | [.v (.int .i64 a),.v (.int .i64 b),.v (.int .i64 c)]=>.ret ⟨.tup [.v (.int .i64 (mulDivV a b c).1),.v (.int .i64 (mulDivV a b c).2)],[]⟩
 | _=>.fail
theorem cMulDiv_ok:∀ B,ConOk Try.prog B 78 cMulDiv:=con_pure mixed Try.func78 (by kernel_rfl) rfl CWide_ok (fun B' w=>cn0_ok B' w _) (by
 intro args lo h out ids hr
 unfold cMulDiv at hr
 split at hr
 · rename_i a b c
   cases hr
   exact ⟨rfl,rfl,mulDiv_ev a b c⟩
 · cases hr)
end Go.Proofs.Ytlfkfajodnkkhaa.Ax
namespace Go.Proofs.Ytlfkfajodnkkhaa.Print
open Go Go.RowKit Go.Proofs.Ytlfkfajodnkkhaa.Ax
def rho0:Rho:=fun _=>⟨0,0,0,0,false,none⟩
end Go.Proofs.Ytlfkfajodnkkhaa.Print
namespace Go.Proofs.Ytlfkfajodnkkhaa.Ax
open Go Go.RowKit
set_option linter.unusedVariables false
set_option linter.unusedSimpArgs false
theorem mag_nn (a:Int):0≤mag a:=by unfold mag;split<;>omega
theorem half_nn (p c:Int) (hp:0≤p) (hc:0<c):0≤halfV p c:=by
 unfold halfV;exact Int.ediv_nonneg (by omega) (by omega)
theorem half_spec (p c:Int) (hc:0<c):2 * c * halfV p c≤2 * p+c∧2 * p+c<2 * c * halfV p c+2 * c:=by
 unfold halfV
 have h1:=Int.mul_ediv_add_emod (2 * p+c) (2 * c)
 have h2:=Int.emod_nonneg (2 * p+c) (b:=2 * c) (by omega)
 have h3:=Int.emod_lt_of_pos (2 * p+c) (b:=2 * c) (by omega)
 omega
theorem mag_mul (a b:Int):mag a * mag b=(if a * b<0 then -(a * b) else a * b)∧(a * b=0∨decide (a * b<0)=(decide (a<0) != decide (b<0))):=by
 unfold mag
 by_cases ha:a<0
 · by_cases hb:b<0
   · have:=Int.mul_pos_of_neg_of_neg ha hb
     rw [if_pos ha,if_pos hb,Int.neg_mul_neg,if_neg (by omega)]
     exact ⟨rfl,.inr (by rw [decide_eq_true ha,decide_eq_true hb,decide_eq_false (by omega)];rfl)⟩
   · rw [if_pos ha,if_neg hb,Int.neg_mul]
     rcases (show b=0∨0<b by omega) with h0|h0
     · subst h0;simp
     · have:=Int.mul_neg_of_neg_of_pos ha h0
       rw [if_pos this]
       exact ⟨rfl,.inr (by rw [decide_eq_true ha,decide_eq_false hb,decide_eq_true this];rfl)⟩
 · by_cases hb:b<0
   · rw [if_neg ha,if_pos hb,Int.mul_neg]
     rcases (show a=0∨0<a by omega) with h0|h0
     · subst h0;simp
     · have:=Int.mul_neg_of_pos_of_neg h0 hb
       rw [if_pos this]
       exact ⟨rfl,.inr (by rw [decide_eq_false ha,decide_eq_true hb,decide_eq_true this];rfl)⟩
   · have:=Int.mul_nonneg (show 0≤a by omega) (show 0≤b by omega)
     rw [if_neg ha,if_neg hb,if_neg (by omega)]
     exact ⟨rfl,.inr (by rw [decide_eq_false ha,decide_eq_false hb,decide_eq_false (by omega)];rfl)⟩
end Go.Proofs.Ytlfkfajodnkkhaa.Ax
namespace Go.Proofs.Ytlfkfajodnkkhaa.Ax
open Go Go.RowKit Go.Proofs.Ytlfkfajodnkkhaa.Print Go.Proofs.YtlfkfajodnkkhaaW.PrintWords
set_option linter.unusedVariables false
set_option linter.unusedSimpArgs false
def CMD:FuncId→Option Con
 | 78=>some cMulDiv
 | _=>none
theorem CMD_ok:∀ B' g φ,CMD g=some φ→ConOk Try.prog B' g φ:=by
 intro B' g φ h
 unfold CMD at h
 split at h
 · cases h;exact cMulDiv_ok B'
 · cases h
def bpB (b:Int):Bool:=decide (0≤b) && decide (b≤10000)
theorem bpB_iff (b:Int):bpB b=true↔0≤b∧b≤10000:=by simp [bpB]
def taxV (a b:Int):Int × Int:=bif bpB b then mulDivV a b 10000 else (0,2)
def insideV (a b:Int):Int × Int:=bif bpB b then mulDivV a b (10000+b) else (0,2)
def int2 (x y:Int):SV:=.tup [.v (.int .i64 x),.v (.int .i64 y)]
theorem tax_tree (a b:Int):evFn Try.prog CMD cn0 4 Try.f73 [.v (.int .i64 a),.v (.int .i64 b)] [] 0 K1 =
 sel (decide (b<0)) (some (int2 0 2)) (sel (decide (10000<b)) (some (int2 0 2)) (some (int2 (mulDivV a b 10000).1 (mulDivV a b 10000).2))):=by kernel_rfl
theorem inside_tree (a b:Int):evFn Try.prog CMD cn0 4 Try.f75 [.v (.int .i64 a),.v (.int .i64 b)] [] 0 K1 =
 sel (decide (b<0)) (some (int2 0 2)) (sel (decide (10000<b)) (some (int2 0 2)) (some (int2 (mulDivV a b (IntKind.i64.wrap (10000+b))).1 (mulDivV a b (IntKind.i64.wrap (10000+b))).2))):=by kernel_rfl
theorem bp_split {α:Type} (b:Int) (x y:α):sel (decide (b<0)) (some x) (sel (decide (10000<b)) (some x) (some y))=some (bif bpB b then y else x):=by
 unfold bpB
 by_cases h1:b<0
 · rw [decide_eq_true h1,decide_eq_false (show ¬ 0≤b by omega)];rfl
 · rw [decide_eq_false h1,decide_eq_true (show 0≤b by omega)]
   by_cases h2:10000<b
   · rw [decide_eq_true h2,decide_eq_false (show ¬ b≤10000 by omega)];rfl
   · rw [decide_eq_false h2,decide_eq_true (show b≤10000 by omega)];rfl
def cTax:Con:=fun args _=>match args with
 | [.v (.int .i64 a),.v (.int .i64 b)]=>.ret ⟨.tup [.v (.int .i64 (taxV a b).1),.v (.int .i64 (taxV a b).2)],[]⟩
 | _=>.fail
theorem cTax_ok:∀ B,ConOk Try.prog B 73 cTax:=con_pure mixed Try.func73 (by kernel_rfl) rfl CMD_ok (fun B' w=>cn0_ok B' w _) (by
 intro args lo h out ids hr
 unfold cTax at hr
 split at hr
 · rename_i a b
   cases hr
   refine ⟨rfl,rfl,?_⟩
   rw [tax_tree,bp_split]
   unfold taxV
   cases bpB b<;>rfl
 · cases hr)
def cInside:Con:=fun args _=>match args with
 | [.v (.int .i64 a),.v (.int .i64 b)]=>.ret ⟨.tup [.v (.int .i64 (insideV a b).1),.v (.int .i64 (insideV a b).2)],[]⟩
 | _=>.fail
theorem wrap64_10000 {b:Int} (h:bpB b=true):IntKind.i64.wrap (10000+b)=10000+b:=by
 rw [bpB_iff] at h
 rw [IntKind.wrap_i64];omega
theorem cInside_ok:∀ B,ConOk Try.prog B 75 cInside:=con_pure mixed Try.func75 (by kernel_rfl) rfl CMD_ok (fun B' w=>cn0_ok B' w _) (by
 intro args lo h out ids hr
 unfold cInside at hr
 split at hr
 · rename_i a b
   cases hr
   refine ⟨rfl,rfl,?_⟩
   rw [inside_tree,bp_split]
   unfold insideV
   cases hb:bpB b with
   | false=>rfl
   | true=>rw [wrap64_10000 hb];rfl
 · cases hr)
def uponV (a b:Int):Int × Int × Int:=bif (taxV a b).2 != 0 then (0,0,(taxV a b).2) else bif (smV [a,(taxV a b).1]).2 != 0 then (0,0,(smV [a,(taxV a b).1]).2) else (a,(taxV a b).1,0)
def insV (a b:Int):Int × Int × Int:=bif (insideV a b).2 != 0 then (0,0,(insideV a b).2) else (IntKind.i64.wrap (a - (insideV a b).1),(insideV a b).1,0)
def partV (a:Int) (g:Bool) (b:Int):Int × Int × Int:=bif g then insV a b else uponV a b
def CWay:FuncId→Option Con
 | 73=>some cTax
 | 75=>some cInside
 | 74=>some cAdd
 | _=>none
theorem CWay_ok:∀ B' g φ,CWay g=some φ→ConOk Try.prog B' g φ:=by
 intro B' g φ h
 unfold CWay at h
 split at h
 · cases h;exact cTax_ok B'
 · cases h;exact cInside_ok B'
 · cases h;exact cAdd_ok B'
 · cases h
def int3 (x y z:Int):SV:=.tup [.v (.int .i64 x),.v (.int .i64 y),.v (.int .i64 z)]
theorem upon_tree (a b:Int) (g:Bool):evFn Try.prog CWay cn0 4 Try.f66 [.agg [.v (.int .i64 a),.v (.bool g)],.v (.int .i64 b)] [] 0 K1 =
 sel ((taxV a b).2 != 0) (some (int3 0 0 (taxV a b).2)) (sel ((smV [a,(taxV a b).1]).2 != 0) (some (int3 0 0 (smV [a,(taxV a b).1]).2)) (some (int3 a (taxV a b).1 0))):=by kernel_rfl
theorem ins_tree (a b:Int) (g:Bool):evFn Try.prog CWay cn0 4 Try.f67 [.agg [.v (.int .i64 a),.v (.bool g)],.v (.int .i64 b)] [] 0 K1 =
 sel ((insideV a b).2 != 0) (some (int3 0 0 (insideV a b).2)) (some (int3 (IntKind.i64.wrap (a - (insideV a b).1)) (insideV a b).1 0)):=by kernel_rfl
def cUpon:Con:=fun args _=>match args with
 | [.agg [.v (.int .i64 a),.v (.bool g)],.v (.int .i64 b)]=>.ret ⟨.tup [.v (.int .i64 (uponV a b).1),.v (.int .i64 (uponV a b).2.1),.v (.int .i64 (uponV a b).2.2)],[]⟩
 | _=>.fail
theorem cUpon_ok:∀ B,ConOk Try.prog B 66 cUpon:=con_pure mixed Try.func66 (by kernel_rfl) rfl CWay_ok (fun B' w=>cn0_ok B' w _) (by
 intro args lo h out ids hr
 unfold cUpon at hr
 split at hr
 · rename_i a g b
   cases hr
   refine ⟨rfl,rfl,?_⟩
   rw [upon_tree]
   unfold uponV
   cases (taxV a b).2 != 0<;>cases (smV [a,(taxV a b).1]).2 != 0<;>rfl
 · cases hr)
def cIns:Con:=fun args _=>match args with
 | [.agg [.v (.int .i64 a),.v (.bool g)],.v (.int .i64 b)]=>.ret ⟨.tup [.v (.int .i64 (insV a b).1),.v (.int .i64 (insV a b).2.1),.v (.int .i64 (insV a b).2.2)],[]⟩
 | _=>.fail
theorem cIns_ok:∀ B,ConOk Try.prog B 67 cIns:=con_pure mixed Try.func67 (by kernel_rfl) rfl CWay_ok (fun B' w=>cn0_ok B' w _) (by
 intro args lo h out ids hr
 unfold cIns at hr
 split at hr
 · rename_i a g b
   cases hr
   refine ⟨rfl,rfl,?_⟩
   rw [ins_tree]
   unfold insV
   cases (insideV a b).2 != 0<;>rfl
 · cases hr)
def CPart:FuncId→Option Con
 | 66=>some cUpon
 | 67=>some cIns
 | _=>none
theorem CPart_ok:∀ B' g φ,CPart g=some φ→ConOk Try.prog B' g φ:=by
 intro B' g φ h
 unfold CPart at h
 split at h
 · cases h;exact cUpon_ok B'
 · cases h;exact cIns_ok B'
 · cases h
theorem part_tree (a b:Int) (g:Bool):evFn Try.prog CPart cn0 4 Try.f52 [.v (.int .i64 a),.v (.bool g),.v (.int .i64 b)] [] 0 K1 =
 sel g (some (int3 (insV a b).1 (insV a b).2.1 (insV a b).2.2)) (some (int3 (uponV a b).1 (uponV a b).2.1 (uponV a b).2.2)):=by kernel_rfl
theorem part_ev (a b:Int) (g:Bool):evFn Try.prog CPart cn0 4 Try.f52 [.v (.int .i64 a),.v (.bool g),.v (.int .i64 b)] [] 0 K1=some (.tup [.v (.int .i64 (partV a g b).1),.v (.int .i64 (partV a g b).2.1),.v (.int .i64 (partV a g b).2.2)]):=by
 rw [part_tree];cases g<;>rfl
def cPart:Con:=fun args _=>match args with
 | [.v (.int .i64 a),.v (.bool g),.v (.int .i64 b)]=>.ret ⟨.tup [.v (.int .i64 (partV a g b).1),.v (.int .i64 (partV a g b).2.1),.v (.int .i64 (partV a g b).2.2)],[]⟩
 | _=>.fail
theorem cPart_ok:∀ B,ConOk Try.prog B 52 cPart:=con_pure mixed Try.func52 (by kernel_rfl) rfl CPart_ok (fun B' w=>cn0_ok B' w _) (by
 intro args lo h out ids hr
 unfold cPart at hr
 split at hr
 · rename_i a g b
   cases hr
   exact ⟨rfl,rfl,part_ev a b g⟩
 · cases hr)
end Go.Proofs.Ytlfkfajodnkkhaa.Ax
namespace Go.Proofs.Ytlfkfajodnkkhaa.Print
open Go Go.RowKit Go.Proofs.Ytlfkfajodnkkhaa.Ax
end Go.Proofs.Ytlfkfajodnkkhaa.Print
namespace Go.Proofs.Ytlfkfajodnkkhaa.Print
open Go.RowKit Go.Proofs.YtlfkfajodnkkhaaW.PrintWords Go.Proofs.YtlfkfajodnkkhaaW.PrintLast Go.Proofs.YtlfkfajodnkkhaaW.PrintMore
attribute [local go_sem] max2_int min2_int max_two min_two max_three min_three max_four min_four   -- for this text's walks alone
set_option linter.unusedVariables false
set_option linter.unusedSimpArgs false
end Go.Proofs.Ytlfkfajodnkkhaa.Print
namespace Go.Proofs.Ytlfkfajodnkkhaa.Print
open Go.RowKit Go.Proofs.YtlfkfajodnkkhaaW.PrintWords Go.Proofs.YtlfkfajodnkkhaaW.PrintLast Go.Proofs.YtlfkfajodnkkhaaW.PrintMore
attribute [local go_sem] max2_int min2_int max_two min_two max_three min_three max_four min_four   -- for this text's walks alone
set_option linter.unusedVariables false
set_option linter.unusedSimpArgs false
end Go.Proofs.Ytlfkfajodnkkhaa.Print
