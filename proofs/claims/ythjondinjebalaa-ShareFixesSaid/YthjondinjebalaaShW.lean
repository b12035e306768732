/- Share: what Split's parts are. -/
import Derived.Test.YthjondinjebalaaShI
import Derived.Test.YthjondinjebalaaWideA
import Derived.Test.YthjondinjebalaaMoney
import Derived.Test.YthjondinjebalaaShS
namespace Go.Proofs.Ythjondinjebalaa.Ax
open Go Go.RowKit Go.Proofs.Ythjondinjebalaa.Print Go.Proofs.YthjondinjebalaaW.PrintWords
set_option linter.unusedVariables false
set_option linter.unusedSimpArgs false
def intsOf:List SV→Option (List Int)
 | []=>some []
 | s :: l=>match s with
  | .v (.int .i64 a)=>match intsOf l with
   | some r=>some (a :: r)
   | none=>none
  | _=>none
theorem intsOf_den (ρ:Rho):∀ {c:List SV} {l:List Int},intsOf c=some l→denL ρ c=l.map (Value.int .i64)
 | [],l,h=>by cases h;rfl
 | s :: c,l,h=>by
  cases s with
  | v x =>
   cases x with
   | int k a =>
    cases k<;>simp only [intsOf,reduceCtorEq] at h
    cases hr:intsOf c with
    | none=>rw [hr] at h;cases h
    | some r =>
     rw [hr] at h
     cases h
     simp only [denL,den,intsOf_den ρ hr,List.map_cons]
   | _=>cases h
  | _=>cases h
theorem C_of_cells {w:World} {ρ:Rho} {id ty:Nat} {c:List SV} {l:List Int} (h:OK ρ w (ρ id) (.cells ty c)) (hl:intsOf c=some l) (hb:l.length≤9223372036854775807) :
 den ρ (.slc id 1 0 l.length (some l.length)) = .slice (some ⟨(ρ id).blk,0,none⟩) l.length l.length∧Kd.C (Kd.int .i64) w (some ⟨(ρ id).blk,0,none⟩) l.length l:=by
 obtain ⟨h1,h2,h3⟩:=h
 rw [intsOf_den ρ hl] at h3
 refine ⟨?_,rfl,hb,fun _=>⟨_,rfl,fun j p hp=>⟨[Value.int .i64 p],rfl,rfl,fun i u hu=>?_⟩⟩⟩
 · simp only [den,h1,h2,Bool.false_eq_true,if_false,Nat.zero_mul,Nat.add_zero]
 have hi:i=0:=by
  cases i with
  | zero=>rfl
  | succ i=>simp at hu
 subst hi
 simp at hu
 subst hu
 have ha:(⟨(ρ id).blk,0,none⟩:Addr).add (j * 1+0)=⟨(ρ id).blk,j,none⟩:=by
  unfold Addr.add
  split
  · rename_i h0;congr 1;omega
  · simp
 show w.cell? ((⟨(ρ id).blk,0,none⟩:Addr).add (j * 1+0))=_
 rw [ha,cell_of_row w _ j _ ty _ h3]
 simp [hp]
def smV (l:List Int):Int × Int:=money_Sum.v l
def sumR (c:List SV) (n m:Nat):Rd Out:=.opt (intsOf c) fun l=>.br (Nat.beq l.length n && Nat.beq l.length m && okLen l) (.ret ⟨.tup [.v (.int .i64 (smV l).1),.v (.int .i64 (smV l).2)],[]⟩) .fail
def cSum:Con:=fun args _=>match args with
 | [.slc id 1 0 n (some m)]=>.obj id fun o=>match o with
  | .cells _ c=>sumR c n m
  | .ro _ c=>sumR c n m
  | _=>.fail
 | _=>.fail
theorem sumR_run {c:List SV} {n m:Nat} {h:Hp} {out:Out} {ids:List Nat} (hr:(sumR c n m).run h=some (out,ids)) :
 ∃ l,intsOf c=some l∧l.length=n∧l.length=m∧l.length≤9223372036854775807∧out=⟨.tup [.v (.int .i64 (smV l).1),.v (.int .i64 (smV l).2)],[]⟩:=by
 unfold sumR at hr
 cases hl:intsOf c with
 | none=>rw [hl] at hr;cases hr
 | some l =>
  rw [hl] at hr
  obtain ⟨hb,hr⟩:=br_run (h:=h) hr
  cases hr
  simp only [Bool.and_eq_true] at hb
  obtain ⟨⟨b1,b2⟩,b3⟩:=hb
  exact ⟨l,rfl,Nat.eq_of_beq_eq_true b1,Nat.eq_of_beq_eq_true b2,Nat.le_of_ble_eq_true b3,rfl⟩
theorem sum_gives {B:Nat→Prop} {ρ:Rho} {h:Hp} {w:World} {lo id ty n m:Nat} {c:List SV} {out:Out} {ids:List Nat} (hrh:HR B ρ h w) (up:∀ b,w.heap.size≤b→B b) (hk:OK ρ w (ρ id) (.cells ty c)) (hr:(sumR c n m).run h=some (out,ids)) :
 CallGives Try.prog 18 (denL ρ [.slc id 1 0 n (some m)]).toArray w fun v w'=>∃ ρ',Made B ρ h w lo (lo+wide) out ρ' v w':=by
 obtain ⟨l,hl,b1,b2,b3,rfl⟩:=sumR_run hr
 subst b1
 subst b2
 obtain ⟨d1,d2⟩:=C_of_cells hk hl b3
 have hargs:(denL ρ [.slc id 1 0 l.length (some l.length)]).toArray = #[.slice (some ⟨(ρ id).blk,0,none⟩) l.length l.length]:=by
  show (#[den ρ (.slc id 1 0 l.length (some l.length))]:Array Value)=_
  rw [d1]
 rw [hargs]
 exact gives_same (s:=.tup [.v (.int .i64 (smV l).1),.v (.int .i64 (smV l).2)]) (fn:=Try.f18) Try.func18 (by kernel_rfl) (by kernel_rfl) hrh up (money_Sum.calls _ _ l _ _ w d2 (Nat.le_refl _) rfl)
theorem cSum_ok (B):ConOk Try.prog B 18 cSum:=by
 intro args ρ h w lo out ids hr hrh hfr hfa up
 unfold cSum at hr
 split at hr
 · rename_i id n m
   obtain ⟨o,ids',ho,hr⟩:=obj_run hr
   split at hr
   · exact sum_gives hrh up (hrh.ok id _ ho) hr
   · rename_i ty c
     have hk:=hrh.ok id _ ho
     exact sum_gives (ty:=ty) hrh up ⟨hk.1,hk.2.1,hk.2.2⟩ hr
   · cases hr
 · cases hr
def CSum:FuncId→Option Con
 | 18=>some cSum
 | _=>none
theorem CSum_ok:∀ B' g φ,CSum g=some φ→ConOk Try.prog B' g φ:=by
 intro B' g φ h
 unfold CSum at h
 split at h
 · cases h;exact cSum_ok B'
 · cases h
def cTotal:Con:=fun args _=>match args with
 | [.slc id 1 0 n (some m)]=>.obj id fun o=>match o with
  | .cells _ c=>sumR c n m
  | .ro _ c=>sumR c n m
  | _=>.fail
 | _=>.fail
theorem total_tree (ty:Nat) (c:List SV) (n m:Nat):evFn Try.prog CSum cn0 4 Try.f40 [.slc 0 1 0 n (some m)] [(0,.ro ty c)] 1 K1 =
 obnd (intsOf c) fun l=>sel (Nat.beq l.length n && Nat.beq l.length m && okLen l) (some (.tup [.v (.int .i64 (smV l).1),.v (.int .i64 (smV l).2)])) none:=by kernel_rfl
theorem total_gives {B:Nat→Prop} {ρ:Rho} {h:Hp} {w:World} {lo id ty n m:Nat} {c:List SV} {out:Out} {ids:List Nat} {o:AObj} (hrh:HR B ρ h w) (up:∀ b,w.heap.size≤b→B b) (ho:look h id=some o) (hk:o = .cells ty c∨o = .ro ty c) (hr:(sumR c n m).run h=some (out,ids)) :
 CallGives Try.prog 40 (denL ρ [.slc id 1 0 n (some m)]).toArray w fun v w'=>∃ ρ',Made B ρ h w lo (lo+wide) out ρ' v w':=by
 obtain ⟨l,hl,b1,b2,b3,rfl⟩:=sumR_run hr
 have hc:c=l.map (fun a=>SV.v (.int .i64 a)):=by
  clear hk hr b1 b2 b3
  induction c generalizing l with
  | nil=>cases hl;rfl
  | cons s c ih =>
   simp only [intsOf] at hl
   split at hl
   · split at hl
     · rename_i r hr
       cases hl
       rw [ih r hr];rfl
     · cases hl
   · cases hl
 have hren:renL (fun i=>i) c=c:=renL_id c
 have hlt:ltL 1 c=true:=by
  rw [hc]
  clear hc hl b1 b2 b3 hr
  induction l with
  | nil=>rfl
  | cons a l ih=>simp only [List.map_cons,ltL,ih];rfl
 have hren':renL (fun _=>id) c=c:=by
  rw [hc]
  clear hc hl b1 b2 b3 hr hlt hren
  induction l with
  | nil=>rfl
  | cons a l ih=>simp only [List.map_cons,renL,ih];rfl
 have ht:evFn Try.prog CSum cn0 4 Try.f40 [.slc 0 1 0 n (some m)] [(0,.ro ty c)] 1 K1=some (.tup [.v (.int .i64 (smV l).1),.v (.int .i64 (smV l).2)]):=by
  rw [total_tree,hl,obnd_some,b1]
  rw [b1] at b2
  subst b2
  rw [show okLen l=true from Nat.ble_eq_true_of_le b3,Nat.beq_refl];rfl
 exact con_reads (B:=B) mixed Try.func40 (by kernel_rfl) rfl CSum_ok (fun B' w=>cn0_ok B' w _) [.slc 0 1 0 n (some m)] (fun _=>id) [(0,.ro ty c)] 1 _ K1_spec ht ρ h w lo hrh up rfl
  (fun i oc hi=>by
   simp only [look] at hi
   by_cases e:0=i
   · subst e;cases hi;exact ⟨by decide,hlt⟩
   · rw [beq_no e] at hi;cases hi)
  (fun i oc hi=>by
   simp only [look] at hi
   by_cases e:0=i
   · subst e
     cases hi
     refine ⟨o,ho,?_⟩
     simp only [Reads,hren']
     exact hk
   · rw [beq_no e] at hi;cases hi)
theorem cTotal_ok (B):ConOk Try.prog B 40 cTotal:=by
 intro args ρ h w lo out ids hr hrh hfr hfa up
 unfold cTotal at hr
 split at hr
 · rename_i id n m
   obtain ⟨o,ids',ho,hr⟩:=obj_run hr
   split at hr
   · exact total_gives hrh up ho (.inl rfl) hr
   · exact total_gives hrh up ho (.inr rfl) hr
   · cases hr
 · cases hr
def CTot:FuncId→Option Con
 | 40=>some cTotal
 | _=>none
theorem CTot_ok:∀ B' g φ,CTot g=some φ→ConOk Try.prog B' g φ:=by
 intro B' g φ h
 unfold CTot at h
 split at h
 · cases h;exact cTotal_ok B'
 · cases h
theorem add_tree (a b:Int):evFn Try.prog CTot cn0 4 Try.f20 [.v (.int .i64 a),.v (.int .i64 b)] [] 0 K1=some (.tup [.v (.int .i64 (smV [a,b]).1),.v (.int .i64 (smV [a,b]).2)]):=by kernel_rfl
def cAdd:Con:=fun args _=>match args with
 | [.v (.int .i64 a),.v (.int .i64 b)]=>.ret ⟨.tup [.v (.int .i64 (smV [a,b]).1),.v (.int .i64 (smV [a,b]).2)],[]⟩
 | _=>.fail
theorem cAdd_ok:∀ B,ConOk Try.prog B 20 cAdd:=con_pure mixed Try.func20 (by kernel_rfl) rfl CTot_ok (fun B' w=>cn0_ok B' w _) (by
 intro args lo h out ids hr
 unfold cAdd at hr
 split at hr
 · rename_i a b
   cases hr
   exact ⟨rfl,rfl,add_tree a b⟩
 · cases hr)
def cSum2:Con:=fun args lo=>match args with
 | [.all id]=>.obj id fun o=>match o with
  | .row _ [.int .i64] l=>.br (okLen l) (.ret ⟨.tup [.v (.int .i64 (smV l).1),.v (.int .i64 (smV l).2)],[]⟩) .fail
  | _=>.fail
 | l=>cSum l lo
theorem cSum2_ok (B):ConOk Try.prog B 18 cSum2:=by
 intro args ρ h w lo out ids hr hrh hfr hfa up
 unfold cSum2 at hr
 split at hr
 · rename_i id
   obtain ⟨o,ids',ho,hr⟩:=obj_run hr
   split at hr
   · rename_i e l
     obtain ⟨hb,hr⟩:=br_run (h:=h) hr
     cases hr
     have hl:=Nat.le_of_ble_eq_true hb
     obtain ⟨A,c,h1,h2,h3⟩:=C_of_row (hrh.ok id _ ho) hl
     have hargs:(denL ρ [.all id]).toArray = #[.slice A l.length c]:=by
      exact congrArg (fun v=>(#[v]:Array Value)) (h1 ρ id rfl)
     rw [hargs]
     exact gives_same (s:=.tup [.v (.int .i64 (smV l).1),.v (.int .i64 (smV l).2)]) (fn:=Try.f18) Try.func18 (by kernel_rfl) (by kernel_rfl) hrh up (money_Sum.calls A c l _ _ w h3 h2 rfl)
   · cases hr
 · exact cSum_ok B _ ρ h w lo out ids hr hrh hfr hfa up
end Go.Proofs.Ythjondinjebalaa.Ax
namespace Go.Proofs.Ythjondinjebalaa.Sh
open Go Go.RowKit Go.Proofs.YthjondinjebalaaW.PrintWords Go.Proofs.Ythjondinjebalaa.Ax
set_option linter.unusedVariables false
set_option linter.unusedSimpArgs false
noncomputable def autoA (C:FuncId→Option Con) (fn:Func):Con:=conAuto Try.prog C cn0 40 true fn
theorem autoA_ok {f : FuncId} {fn : Func} {C : FuncId → Option Con} (hC : ∀ B' g φ, C g = some φ → ConOk Try.prog B' g φ) (hf : Try.prog.funcs[f]? = some fn) (hname : (fn.name == "runtime.NumGoroutine") = false) (hbody : fn.body.isSome = true) (B : Nat → Prop) : ConOk Try.prog B f (autoA C fn) :=
 conAuto_ok mixed hf hname hbody hC (fun B' w0=>cn0_ok B' w0 _) true B
noncomputable def CA0:FuncId→Option Con
 | 16=>some Ax.cMay
 | 18=>some Ax.cSum2
 | 20=>some Ax.cAdd
 | 40=>some Ax.cTotal
 | 24=>some cSized
 | 11=>some cSplit
 | _=>none
theorem CA0_ok:∀ B' g φ,CA0 g=some φ→ConOk Try.prog B' g φ:=by
 intro B' g φ h
 unfold CA0 at h
 split at h
 · cases h;exact Ax.cMay_ok B'
 · cases h;exact Ax.cSum2_ok B'
 · cases h;exact Ax.cAdd_ok B'
 · cases h;exact Ax.cTotal_ok B'
 · cases h;exact cSized_ok B'
 · cases h;exact cSplit_ok B'
 · cases h
noncomputable def CA1:FuncId→Option Con
 | 39=>some (autoA CA0 Try.f39)
 | 35=>some (autoA CA0 Try.f35)
 | g=>CA0 g
theorem CA1_ok:∀ B' g φ,CA1 g=some φ→ConOk Try.prog B' g φ:=by
 intro B' g φ h
 unfold CA1 at h
 split at h
 · cases h;exact autoA_ok CA0_ok Try.func39 (by kernel_rfl) (by kernel_rfl) B'
 · cases h;exact autoA_ok CA0_ok Try.func35 (by kernel_rfl) (by kernel_rfl) B'
 · exact CA0_ok B' _ φ h
noncomputable def CA2:FuncId→Option Con
 | 19=>some (autoA CA1 Try.f19)
 | 17=>some (autoA CA1 Try.f17)
 | 10=>some (autoA CA1 Try.f10)
 | g=>CA1 g
theorem CA2_ok:∀ B' g φ,CA2 g=some φ→ConOk Try.prog B' g φ:=by
 intro B' g φ h
 unfold CA2 at h
 split at h
 · cases h;exact autoA_ok CA1_ok Try.func19 (by kernel_rfl) (by kernel_rfl) B'
 · cases h;exact autoA_ok CA1_ok Try.func17 (by kernel_rfl) (by kernel_rfl) B'
 · cases h;exact autoA_ok CA1_ok Try.func10 (by kernel_rfl) (by kernel_rfl) B'
 · exact CA1_ok B' _ φ h
noncomputable def CA3:FuncId→Option Con
 | 8=>some (autoA CA2 Try.f8)
 | g=>CA2 g
theorem CA3_ok:∀ B' g φ,CA3 g=some φ→ConOk Try.prog B' g φ:=by
 intro B' g φ h
 unfold CA3 at h
 split at h
 · cases h;exact autoA_ok CA2_ok Try.func8 (by kernel_rfl) (by kernel_rfl) B'
 · exact CA2_ok B' _ φ h
theorem lives_tree:evX Try.prog CA3 cn0 40 Try.f7 [] [qBool] ()=some (true,()):=by kernel_rfl
noncomputable def cLives:Con:=conX [] [qBool] fun _=>some (true,())
theorem cLives_ok (B):ConOk Try.prog B 7 cLives :=
 toldP (lin:=[]) (lout:=[qBool]) CA3_ok Try.func7 (by kernel_rfl) (by kernel_rfl) (fun _=>some (true,())) (fun x y h=>lives_tree.trans h) (by decide) B
end Go.Proofs.Ythjondinjebalaa.Sh
namespace Go.Proofs.Ythjondinjebalaa.Sh
open Go Go.RowKit Go.Proofs.YthjondinjebalaaW.PrintWords Go.Proofs.Ythjondinjebalaa.Ax
set_option linter.unusedVariables false
set_option linter.unusedSimpArgs false
abbrev OB:=Option (Bool × Unit)
def oT:OB:=some (true,())
def oF:OB:=some (false,())
end Go.Proofs.Ythjondinjebalaa.Sh
namespace Go.Proofs.Ythjondinjebalaa.Sh
open Go Go.RowKit Go.Proofs.YthjondinjebalaaW.PrintWords Go.Proofs.Ythjondinjebalaa.Ax
set_option linter.unusedVariables false
set_option linter.unusedSimpArgs false
theorem perm_sum {l m:List Int} (h:l.Perm m):l.sum=m.sum:=by
 induction h with
 | nil=>rfl
 | cons x _ ih=>simp [ih]
 | swap x y l=>simp only [List.sum_cons];omega
 | trans _ _ a b=>exact a.trans b
theorem sum_le_len:∀ (l:List Int) (c:Int),(∀ x∈l,x≤c)→l.sum≤(l.length:Int) * c
 | [],c,_=>by simp
 | x :: l,c,h=>by
  have h1:=sum_le_len l c (fun y hy=>h y (by simp [hy]))
  have h2:=h x (by simp)
  simp only [List.sum_cons,List.length_cons]
  have:((l.length+1:Nat):Int) * c=(l.length:Int) * c+c:=by rw [Int.natCast_succ,Int.add_mul,Int.one_mul]
  omega
theorem bump_get:∀ (T:List HP) (o:List Int),Dif T→(∀ p∈T,0≤p.1∧p.1.toNat<o.length)→(∀ p∈T,-4611686018427387904≤rI o p.1∧rI o p.1≤4611686018427387904)→
 (T.foldl bump o).length=o.length∧(T.foldl bump o).sum=o.sum+T.length∧∀ i,i<o.length→rI (T.foldl bump o) (i:Nat)=rI o (i:Nat)+(if ∃ p∈T,p.1=(i:Int) then 1 else 0)
 | [],o,_,_,_=>⟨rfl,by simp,fun i hi=>by simp⟩
 | p :: T,o,hd,hr,hs=>by
  have hd':=List.pairwise_cons.1 hd
  obtain ⟨p0,p1⟩:=hr p (by simp)
  obtain ⟨s0,s1⟩:=hs p (by simp)
  have hb:bump o p=o.set p.1.toNat (rI o p.1+1):=by
   unfold bump
   have:IT.wrap (rI o p.1+1)=rI o p.1+1:=by
    show IntKind.i64.wrap _=_
    rw [IntKind.wrap_i64];omega
   rw [this]
  have hl:(bump o p).length=o.length:=by rw [hb,List.length_set]
  have hoth:∀ j:Nat,(j:Int)≠p.1→rI (bump o p) (j:Nat)=rI o (j:Nat):=by
   intro j hj
   rw [hb]
   unfold rI
   simp only [Int.toNat_natCast,List.getD_eq_getElem?_getD]
   rw [List.getElem?_set_ne (by omega)]
  have hme:rI (bump o p) p.1=rI o p.1+1:=by
   rw [hb]
   show List.getD (o.set p.1.toNat (rI o p.1+1)) p.1.toNat 0=_
   rw [List.getD_eq_getElem?_getD,List.getElem?_set_self p1]
   rfl
  have hsum:(bump o p).sum=o.sum+1:=by
   have e1:o=o.take p.1.toNat ++ o[p.1.toNat] :: o.drop (p.1.toNat+1):=by
    rw [← List.drop_eq_getElem_cons p1,List.take_append_drop]
   have e2:bump o p=o.take p.1.toNat ++ (rI o p.1+1) :: o.drop (p.1.toNat+1):=by
    rw [hb,List.set_eq_take_append_cons_drop,if_pos p1]
   have e3:rI o p.1=o[p.1.toNat]:=by unfold rI;simp [List.getD,p1]
   have e4:o.sum=(o.take p.1.toNat).sum+(o[p.1.toNat]+(o.drop (p.1.toNat+1)).sum):=by
    conv=>lhs;rw [e1]
    rw [List.sum_append,List.sum_cons]
   rw [e2,List.sum_append,List.sum_cons,e4,e3]
   omega
  have hne:∀ q∈T,((q.1.toNat:Nat):Int)≠p.1:=fun q hq e=>by
   have:=hd'.1 q hq
   have:=(hr q (by simp [hq])).1
   omega
  obtain ⟨g1,g2,g3⟩:=bump_get T (bump o p) hd'.2 (fun q hq=>by rw [hl];exact hr q (by simp [hq])) (fun q hq=>by
   have h1:=(hr q (by simp [hq])).1
   have h2:=hoth q.1.toNat (hne q hq)
   rw [Int.toNat_of_nonneg h1] at h2
   rw [h2];exact hs q (by simp [hq]))
  refine ⟨g1.trans hl,?_,fun i hi=>?_⟩
  · rw [List.foldl_cons,g2,hsum,List.length_cons];omega
  · rw [List.foldl_cons,g3 i (by rw [hl];exact hi)]
    by_cases hip:(i:Int)=p.1
    · have hno:¬ ∃ q∈T,q.1=(i:Int):=by
       rintro ⟨q,hq,e⟩
       exact hd'.1 q hq (by omega)
      rw [if_neg hno,if_pos ⟨p,by simp,hip.symm⟩,hip,hme];omega
    · rw [hoth i hip]
      have:(∃ q∈p :: T,q.1=(i:Int))↔∃ q∈T,q.1=(i:Int):=by
       constructor
       · rintro ⟨q,hq,e⟩
         rcases List.mem_cons.1 hq with rfl|hq
         · exact absurd e.symm hip
         · exact ⟨q,hq,e⟩
       · rintro ⟨q,hq,e⟩
         exact ⟨q,by simp [hq],e⟩
      by_cases hc:∃ q∈T,q.1=(i:Int)
      · rw [if_pos hc,if_pos (this.2 hc)]
      · rw [if_neg hc,if_neg (fun h=>hc (this.1 h))]
theorem top_pos {S:List HP} (hS:Srt S) {s:Int} (hs:0<s) (hr:∀ p∈S,0≤p.2.2∧p.2.2≤s - 1) {k:Nat} (hsum:(S.map (·.2.2)).sum=(k:Int) * s):∀ p∈S.take k,0<p.2.2:=by
 intro p hp
 obtain ⟨T1,T2,hT⟩:=List.append_of_mem hp
 have hSS:S=T1 ++ (p :: (T2 ++ S.drop k)):=by
  have:=(List.take_append_drop k S).symm
  rw [hT] at this
  simpa using this
 have hk:T1.length+1≤k:=by
  have h1:(S.take k).length≤k:=by rw [List.length_take];omega
  rw [hT] at h1;simp at h1;omega
 refine Int.not_le.1 fun h0=>?_
 have hp1:=List.pairwise_append.1 (hSS ▸ hS)
 have hp2:=List.pairwise_cons.1 hp1.2.1
 have hlate:∀ x∈(p :: (T2 ++ S.drop k)).map (·.2.2),x≤0:=by
  intro x hx
  obtain ⟨q,hq,rfl⟩:=List.mem_map.1 hx
  rcases List.mem_cons.1 hq with rfl|hq
  · exact h0
  · have:=hp2.1 q hq
    unfold ltP at this
    show q.2.2≤0
    omega
 have hearly:∀ x∈T1.map (·.2.2),x≤s - 1:=by
  intro x hx
  obtain ⟨q,hq,rfl⟩:=List.mem_map.1 hx
  exact (hr q (by rw [hSS];simp [hq])).2
 have h1:=sum_le_len _ _ hlate
 have h2:=sum_le_len _ _ hearly
 have h3:(S.map (·.2.2)).sum=(T1.map (·.2.2)).sum+((p :: (T2 ++ S.drop k)).map (·.2.2)).sum:=by
  conv=>lhs;rw [hSS]
  rw [List.map_append,List.sum_append]
 rw [List.length_map] at h2
 have h4:(T1.length:Int) * (s - 1)≤(T1.length:Int) * s:=Int.mul_le_mul_of_nonneg_left (by omega) (by omega)
 have h5:((T1.length:Int)+1) * s≤(k:Int) * s:=Int.mul_le_mul_of_nonneg_right (by omega) (by omega)
 rw [Int.add_mul,Int.one_mul] at h5
 omega
theorem out_get {total:Int} {ws:List Int} (hmay:Ax.mayB total=true) (hok:(sumV ws).2=true):(outV ws ws.sum (sizedV total)).length=ws.length∧(outV ws ws.sum (sizedV total)).sum=sizedV total∧
 ∀ i (hi:i<ws.length),∃ b:Int,(b=0∨(b=1∧0<rs ws.sum (sizedV total) ws[i]))∧rI (outV ws ws.sum (sizedV total)) (i:Nat)=wh ws.sum (sizedV total) ws[i]+b:=by
 obtain ⟨n1,n2,ng,na,np⟩:=sum_good hok
 obtain ⟨_,_,m1,m2,m3,m4⟩:=nums hmay hok
 have hsz:=size_in hmay
 obtain ⟨q1,q2,q3⟩:=good_sum ws ng
 have hpl:(psV ws ws.sum (sizedV total)).length=ws.length:=by simp [psV]
 have hmem:∀ p∈psV ws ws.sum (sizedV total),∃ i,∃ hi:i<ws.length,p=((i:Int),wh ws.sum (sizedV total) ws[i],rs ws.sum (sizedV total) ws[i]):=by
  intro p hp
  obtain ⟨j,hj,rfl⟩:=List.mem_map.1 hp
  have hj:=List.mem_range.1 hj
  refine ⟨j,hj,?_⟩
  have e:wfn ws j=ws[j]:=by unfold wfn;simp [List.getD,hj]
  show ((j:Int),sizedV total * wfn ws j / ws.sum,sizedV total * wfn ws j % ws.sum)=_
  rw [e];rfl
 have hrest:∀ p∈sortP (psV ws ws.sum (sizedV total)),0≤p.2.2∧p.2.2≤ws.sum - 1:=by
  intro p hp
  obtain ⟨i,hi,rfl⟩:=hmem p ((sortP_perm _).mem_iff.1 hp)
  have h2:=Int.emod_nonneg (sizedV total * ws[i]) (show ws.sum≠0 by omega)
  have h3:=Int.emod_lt_of_pos (sizedV total * ws[i]) np
  show 0≤sizedV total * ws[i] % ws.sum∧sizedV total * ws[i] % ws.sum≤ws.sum - 1
  omega
 have hmapr:(psV ws ws.sum (sizedV total)).map (·.2.2)=ws.map (rs ws.sum (sizedV total)):=by
  apply List.ext_getElem
  · simp [psV]
  · intro i h1 h2
    have hi:i<ws.length:=by simpa using h2
    simp only [psV,List.map_map,List.getElem_map,List.getElem_range,Function.comp]
    show sizedV total * wfn ws i % ws.sum=_
    unfold wfn rs
    simp [List.getD,hi]
 obtain ⟨k,hk⟩:=Int.eq_ofNat_of_zero_le m2
 have hsumr:((sortP (psV ws ws.sum (sizedV total))).map (·.2.2)).sum=(k:Int) * ws.sum:=by
  rw [perm_sum ((sortP_perm (psV ws ws.sum (sizedV total))).map (·.2.2)),hmapr,← m3,hk]
 have hsrt:Srt (sortP (psV ws ws.sum (sizedV total))):=sortP_srt _ (Asc.dif (psV_asc ws _ _))
 have htop:=top_pos hsrt np hrest hsumr
 have hsl:(sortP (psV ws ws.sum (sizedV total))).length=ws.length:=(sortP_len _).trans hpl
 have hkn:k<ws.length:=by omega
 have hdT:Dif ((sortP (psV ws ws.sum (sizedV total))).take k):=((Asc.dif (psV_asc ws _ _)).perm (sortP_perm _).symm).sub (List.take_sublist _ _)
 have hmT:∀ p∈(sortP (psV ws ws.sum (sizedV total))).take k,p∈psV ws ws.sum (sizedV total):=fun p hp=>(sortP_perm _).mem_iff.1 (List.mem_of_mem_take hp)
 have hwh:∀ i (hi:i<ws.length),0≤wh ws.sum (sizedV total) ws[i]∧wh ws.sum (sizedV total) ws[i]≤sizedV total:=by
  intro i hi
  have h4:=q3 i
  rw [show ws.getD i 0=ws[i] by simp [List.getD,hi]] at h4
  refine ⟨Int.ediv_nonneg (Int.mul_nonneg hsz.1 h4.1) (by omega),?_⟩
  refine Int.ediv_le_of_le_mul np ?_
  exact Int.mul_le_mul_of_nonneg_left h4.2 hsz.1
 have hrI:∀ i (hi:i<ws.length),rI (ws.map (wh ws.sum (sizedV total))) (i:Nat)=wh ws.sum (sizedV total) ws[i]:=by
  intro i hi
  unfold rI
  simp [List.getD,hi]
 have hou:outV ws ws.sum (sizedV total)=((sortP (psV ws ws.sum (sizedV total))).take k).foldl bump (ws.map (wh ws.sum (sizedV total))):=by
  unfold outV;rw [hk];rfl
 obtain ⟨g1,g2,g3⟩:=bump_get ((sortP (psV ws ws.sum (sizedV total))).take k) (ws.map (wh ws.sum (sizedV total))) hdT (fun p hp=>by
  obtain ⟨i,hi,rfl⟩:=hmem p (hmT p hp)
  refine ⟨by show 0≤(i:Int);omega,?_⟩
  show (i:Int).toNat<_
  rw [Int.toNat_natCast,List.length_map];exact hi) (fun p hp=>by
  obtain ⟨i,hi,rfl⟩:=hmem p (hmT p hp)
  have:=hwh i hi
  show -4611686018427387904≤rI _ (i:Int)∧rI _ (i:Int)≤_
  rw [hrI i hi];omega)
 refine ⟨by rw [hou,g1,List.length_map],?_,fun i hi=>?_⟩
 · rw [hou,g2,List.length_take,hsl,Nat.min_eq_left (by omega)]
   have:leftV ws ws.sum (sizedV total)=sizedV total - (ws.map (wh ws.sum (sizedV total))).sum:=rfl
   omega
 · rw [hou,g3 i (by rw [List.length_map];exact hi),hrI i hi]
   by_cases hc:∃ p∈(sortP (psV ws ws.sum (sizedV total))).take k,p.1=(i:Int)
   · rw [if_pos hc]
     refine ⟨1,.inr ⟨rfl,?_⟩,rfl⟩
     obtain ⟨p,hp,he⟩:=hc
     have h1:=htop p hp
     obtain ⟨j,hj,rfl⟩:=hmem p (hmT p hp)
     have:j=i:=by
      have he:(j:Int)=(i:Int):=he
      omega
     subst this
     exact h1
   · rw [if_neg hc]
     exact ⟨0,.inl rfl,rfl⟩
end Go.Proofs.Ythjondinjebalaa.Sh
