/- Merged texts: Ax9,Ax10,Ax11,Ax12,Ax13,Ax14. -/
import Derived.Test.YtlfkfajodnkkhaaAx8
import Derived.Laws.MakeOwn
import Derived.Laws.CopyRow
import Derived.Laws.StructEq
import Derived.Laws.Small
namespace Go.Proofs.Ytlfkfajodnkkhaa.Ax
open Go Go.RowKit
set_option linter.unusedVariables false
set_option linter.unusedSimpArgs false
def CallGives (P:Program) (g:FuncId) (args:Array Value) (w:World) (S:Value→World→Prop):Prop :=
 ((callFunc g args).run P w = .ok (.enter g args) w∧Calls P g args w fun e w'=>∃ v,e = .returned v∧S v w')∨
 (∃ v w',(callFunc g args).run P w = .ok (.value v) w'∧S v w')
def ConOk (P:Program) (B:Nat→Prop) (g:FuncId) (φ:Con):Prop :=
 ∀ (args:List SV) (ρ:Rho) (h:Hp) (w:World) (lo:Nat) (out:Out) (ids:List Nat),(φ args lo).run h=some (out,ids)→HR B ρ h w→HFree lo (lo+wide) h→freeL lo (lo+wide) args=true→(∀ b,w.heap.size≤b→B b)→
  CallGives P g (denL ρ args).toArray w fun v w'=>∃ ρ',Made B ρ h w lo (lo+wide) out ρ' v w'
structure Cx (B:Nat→Prop) (ρ:Rho) (h:Hp) (a:Act) (w:World) (ev:Operand→Option SV) (lo:Nat):Prop where
 ev:∀ x s,ev x=some s→a.eval x=den ρ s∧s.free lo (lo+wide)=true
 hr:HR B ρ h w
 hf:HFree lo (lo+wide) h
 up:∀ b,w.heap.size≤b→B b
section
variable {P:Program} {C:FuncId→Option Con} {B:Nat→Prop} {ρ:Rho} {h:Hp} {a:Act} {w:World} {ev:Operand→Option SV} {lo:Nat} {o:Oper} {out:Out} {ids:List Nat}
abbrev Goal (P:Program) (B:Nat→Prop) (ρ:Rho) (h:Hp) (a:Act) (w:World) (lo:Nat) (o:Oper) (out:Out):Prop:=Gives P o a w fun v w'=>∃ ρ',Made B ρ h w lo (lo+wide) out ρ' v w'
theorem w1_run {α:Type} {x:Option SV} {k:SV→Rd α} {r:α} (hr:(w1 x k).run h=some (r,ids)):∃ s,x=some s∧(k s).run h=some (r,ids):=by
 unfold w1 at hr
 cases x with
 | none=>cases hr
 | some s=>exact ⟨s,rfl,hr⟩
theorem obj_run {α:Type} {id:Nat} {k:AObj→Rd α} {r:α} (hr:(Rd.obj id k).run h=some (r,ids)):∃ o ids',look h id=some o∧(k o).run h=some (r,ids'):=by
 simp only [Rd.run] at hr
 cases hl:look h id with
 | none=>rw [hl] at hr;cases hr
 | some o =>
  rw [hl] at hr
  simp only [Option.map_eq_some_iff] at hr
  obtain ⟨⟨x,l⟩,h1,h2⟩:=hr
  cases h2
  exact ⟨o,l,rfl,h1⟩
theorem br_run {α:Type} {b:Bool} {t:Rd α} {r:α} (hr:(Rd.br b t .fail).run h=some (r,ids)):b=true∧t.run h=some (r,ids):=by
 cases b with
 | true=>exact ⟨rfl,hr⟩
 | false=>cases hr
theorem cond_run {α:Type} {b:Bool} {t:Rd α} {r:α} (hr:(cond b t .fail).run h=some (r,ids)):b=true∧t.run h=some (r,ids):=by
 cases b with
 | true=>exact ⟨rfl,hr⟩
 | false=>cases hr
theorem ret_run {α:Type} {x r:α} (hr:(Rd.ret x).run h=some (r,ids)):r=x:=by cases hr;rfl
theorem goal_pure {s:SV} (c:Cx B ρ h a w ev lo) (hrun:(execOp a.eval o).run P w = .ok (.value (den ρ s)) w):Goal P B ρ h a w lo o ⟨s,[]⟩ :=
 Gives.value hrun ⟨ρ,made_pure c.hr⟩
theorem evL_den (c:Cx B ρ h a w ev lo):∀ {l:List Operand} {r:List SV},evL ev l=some r→l.map a.eval=denL ρ r∧freeL lo (lo+wide) r=true
 | [],r,he=>by cases he;exact ⟨rfl,rfl⟩
 | x :: l,r,he=>by
  simp only [evL] at he
  cases hx:ev x with
  | none=>rw [hx] at he;cases he
  | some s =>
   rw [hx] at he
   cases hl:evL ev l with
   | none=>rw [hl] at he;cases he
   | some r' =>
    rw [hl] at he
    cases he
    obtain ⟨h1,h2⟩:=evL_den c hl
    obtain ⟨h3,h4⟩:=c.ev x s hx
    exact ⟨by simp only [List.map_cons,denL,h1,h3],by simp only [freeL,h4,h2,Bool.and_true]⟩
theorem evParts_den (c:Cx B ρ h a w ev lo):∀ {l:List (Nat × Operand)} {r:List (Nat × SV)},evParts ev l=some r→l.map (fun p=>(p.1,a.eval p.2))=denP ρ r∧(∀ p∈r,p.2.free lo (lo+wide)=true)
 | [],r,he=>by cases he;exact ⟨rfl,by simp⟩
 | (i,x) :: l,r,he=>by
  simp only [evParts] at he
  cases hx:ev x with
  | none=>rw [hx] at he;cases he
  | some s =>
   rw [hx] at he
   cases hl:evParts ev l with
   | none=>rw [hl] at he;cases he
   | some r' =>
    rw [hl] at he
    cases he
    obtain ⟨h1,h2⟩:=evParts_den c hl
    obtain ⟨h3,h4⟩:=c.ev x s hx
    refine ⟨by simp only [List.map_cons,denP,h3];congr 1,fun p hp=>?_⟩
    rcases List.mem_cons.1 hp with hp|hp
    · subst hp;exact h4
    · exact h2 p hp
theorem parts_map (a:Act) (parts:Array (Nat × Operand)):(parts.map fun (i,x)=>(i,a.eval x)).toList=parts.toList.map (fun p=>(p.1,a.eval p.2)):=by simp
theorem loadS_den {t:TypeId} {cs:List SV} {off:Nat} (hr:(loadS P t cs off).run h=some (out,ids)) :
 ∃ g z s,aggT P t=some g∧szT P t=some z∧part1 cs g off z=some s∧out=⟨s,[]⟩:=by
 unfold loadS at hr
 cases hg:aggT P t with
 | none=>rw [hg] at hr;cases hr
 | some g =>
  rw [hg] at hr
  cases hz:szT P t with
  | none=>rw [hz] at hr;cases hr
  | some z =>
   rw [hz] at hr
   simp only at hr
   cases hp:part1 cs g off z with
   | none=>rw [hp] at hr;cases hr
   | some s =>
    rw [hp] at hr
    exact ⟨g,z,s,rfl,rfl,hp,ret_run hr⟩
theorem run_part_at {t:TypeId} {cs:List SV} {off:Nat} {g:Bool} {z:Nat} {s:SV} (hg:aggT P t=some g) (hz:szT P t=some z) (hp:part1 cs g off z=some s) :
 (part t (denL ρ cs).toArray off).run P w = .ok (den ρ s) w:=by
 obtain ⟨h1,h2⟩:=part1_den (ρ:=ρ) hp
 unfold part
 rw [Sem.run_bind,run_isAgg hg]
 cases g with
 | true =>
  obtain ⟨h3,h4⟩:=h1 rfl
  simp only [Result.andThen_ok,if_true]
  rw [Sem.run_bind,run_sizeOf' hz]
  simp only [Result.andThen_ok,Sem.run_pure,h4]
  congr 3
  apply Array.ext'
  simp [List.take_drop,Nat.add_comm]
 | false =>
  have h3:=h2 rfl
  simp only [Result.andThen_ok,Bool.false_eq_true,if_false,List.getElem?_toArray,h3,Sem.run_pure]
theorem flat_drop (s:List Sc):∀ (l:List (TT s)) (i:Nat),i<l.length→((flat s l).drop (i * s.length)).take s.length=enc s (l.getD i (dfl s))
 | [],i,hi=>by simp at hi
 | x :: l,0,_=>by
  simp only [flat,List.map_cons,List.flatten_cons,Nat.zero_mul,List.drop_zero,List.getD_cons_zero]
  rw [List.take_append_of_le_length (by rw [enc_length];exact Nat.le_refl _),List.take_of_length_le (by rw [enc_length];exact Nat.le_refl _)]
 | x :: l,i+1,hi=>by
  have:=flat_drop s l i (by simpa using hi)
  simp only [flat,List.map_cons,List.flatten_cons,List.getD_cons_succ]
  rw [List.drop_append,List.drop_of_length_le (by rw [enc_length,Nat.succ_mul];exact Nat.le_add_left _ _),List.nil_append,enc_length,show (i+1) * s.length - s.length=i * s.length by rw [Nat.succ_mul];omega]
  exact this
theorem flat_length (s:List Sc):∀ (l:List (TT s)),(flat s l).length=l.length * s.length
 | []=>by simp [flat]
 | x :: l=>by
  have:=flat_length s l
  simp only [flat] at this
  simp only [flat,List.map_cons,List.flatten_cons,List.length_append,enc_length,this,List.length_cons,Nat.succ_mul]
  omega
theorem run_loadVar_cells {g o:Nat} {t:TypeId} {agg:Bool} {size:Nat} {cs:List SV} {sub:Nat} {s:SV} (hc:∀ j v,(denL ρ cs)[j]? = some v→w.cell? ⟨g,o+j,none⟩=some v)
 (ha:aggT P t=some agg) (hs:szT P t=some size) (hp:part1 cs agg sub size=some s):(loadVar t ⟨g,o+sub,none⟩).run P w = .ok (den ρ s) w:=by
 obtain ⟨h1,h2⟩:=part1_den (ρ:=ρ) hp
 unfold loadVar
 rw [Sem.run_bind,run_isAgg ha]
 cases agg with
 | true =>
  obtain ⟨h3,h4⟩:=h1 rfl
  simp only [Result.andThen_ok,if_true]
  rw [Sem.run_bind,run_sizeOf' hs]
  simp only [Result.andThen_ok]
  have hl:=run_loadCells_list (P:=P) w ⟨g,o+sub,none⟩ (((denL ρ cs).drop sub).take size) (fun j v hv=>by
   have hadd:(⟨g,o+sub,none⟩:Addr).add j=⟨g,o+(sub+j),none⟩:=by unfold Addr.add;split<;>simp_all<;>omega
   rw [hadd]
   refine hc _ _ ?_
   rw [List.getElem?_take] at hv
   split at hv
   · rw [List.getElem?_drop] at hv;exact hv
   · cases hv)
  rw [show (((denL ρ cs).drop sub).take size).length=size by simp [denL_length];omega] at hl
  rw [Sem.run_bind,hl,h4]
  rfl
 | false =>
  have h3:=h2 rfl
  simp only [Result.andThen_ok,Bool.false_eq_true,if_false]
  rw [run_load,hc sub _ h3]
theorem load_sound {t:TypeId} {x:Operand} (ho:o.op = .load t x) (c:Cx B ρ h a w ev lo) (hr:(eff P C o ev lo).run h=some (out,ids)):Goal P B ρ h a w lo o out:=by
 unfold eff at hr
 rw [ho] at hr
 obtain ⟨s,hs,hr⟩:=w1_run hr
 obtain ⟨he,hfr⟩:=c.ev x s hs
 have exec:∀ (ad:Addr) (v:SV),den ρ s = .pointer (some ad)→(loadVar t ad).run P w = .ok (den ρ v) w→Goal P B ρ h a w lo o ⟨v,[]⟩:=by
  intro ad v hd hl
  refine goal_pure c ?_
  unfold execOp
  simp only [ho,he,hd,Instr.loadAt,Instr.sureAddr,Sem.run_bind,Sem.run_pure,Result.andThen_ok,hl]
 cases s with
 | ptr id off =>
  obtain ⟨ob,ids',hl,hr⟩:=obj_run hr
  cases ob with
  | cells ty cs =>
   obtain ⟨g,z,s',h1,h2,h3,rfl⟩:=loadS_den hr
   obtain ⟨k1,k2,k3⟩:=c.hr.ok _ _ hl
   refine exec ⟨(ρ id).blk,(ρ id).off+off,none⟩ s' rfl ?_
   rw [k2,Nat.zero_add]
   exact run_loadVar_at k3 h1 h2 h3
  | ro ty cs =>
   obtain ⟨g,z,s',h1,h2,h3,rfl⟩:=loadS_den hr
   obtain ⟨k1,k2,k3⟩:=c.hr.ok _ _ hl
   refine exec ⟨(ρ id).blk,(ρ id).off+off,none⟩ s' rfl ?_
   rw [k2,Nat.zero_add]
   exact run_loadVar_at k3 h1 h2 h3
  | _=>cases hr
 | elt id n i sub =>
  obtain ⟨ob,ids',hl,hr⟩:=obj_run hr
  cases ob with
  | cells ty cs =>
   obtain ⟨g,z,s',h1,h2,h3,rfl⟩:=loadS_den hr
   obtain ⟨k1,k2,k3⟩:=c.hr.ok _ _ hl
   refine exec ⟨(ρ id).blk,(ρ id).off+i * n+sub,none⟩ s' rfl ?_
   rw [k2,Nat.zero_add]
   exact run_loadVar_at k3 h1 h2 h3
  | ro ty cs =>
   obtain ⟨g,z,s',h1,h2,h3,rfl⟩:=loadS_den hr
   obtain ⟨k1,k2,k3⟩:=c.hr.ok _ _ hl
   refine exec ⟨(ρ id).blk,(ρ id).off+i * n+sub,none⟩ s' rfl ?_
   rw [k2,Nat.zero_add]
   exact run_loadVar_at k3 h1 h2 h3
  | row ty sc l =>
   obtain ⟨hn,hr1⟩:=cond_run hr
   obtain ⟨hi,hr2⟩:=br_run hr1
   have hn:=Nat.eq_of_beq_eq_true hn
   have hi:i<l.length:=of_decide_eq_true hi
   subst hn
   obtain ⟨g,z,s',h1,h2,h3,rfl⟩:=loadS_den hr2
   obtain ⟨k0,k1⟩:=c.hr.ok _ _ hl
   rcases k1 with ⟨_,k1,_⟩|⟨k1,k2,k3,arr,k4,k5,k6⟩
   · subst k1;simp at hi
   · refine exec ⟨(ρ id).blk,(ρ id).off+i * sc.length+sub,none⟩ s' rfl ?_
     refine run_loadVar_cells (ρ:=ρ) (cs:=(enc sc (l.getD i (dfl sc))).map SV.v) (fun j v hv=>?_) h1 h2 h3
     rw [map_v] at hv
     rw [k2,Nat.zero_add,cell_of_row w _ _ _ _ _ k4]
     have hj:j<sc.length:=by
      have:=(List.getElem?_eq_some_iff.1 hv).1
      rwa [enc_length] at this
     rw [← flat_drop sc l i hi,List.getElem?_take,if_pos hj,List.getElem?_drop,← k6,List.getElem?_take] at hv
     split at hv
     · simpa using hv
     · cases hv
  | arg sc l =>
   obtain ⟨hn,hr1⟩:=cond_run hr
   obtain ⟨hi,hr2⟩:=br_run hr1
   have hn:=Nat.eq_of_beq_eq_true hn
   have hi:i<l.length:=of_decide_eq_true hi
   subst hn
   obtain ⟨g,z,s',h1,h2,h3,rfl⟩:=loadS_den hr2
   obtain ⟨k0,k1⟩:=c.hr.ok _ _ hl
   rcases k1 with ⟨_,k1⟩|⟨hnil,k1,k3,k4⟩
   · subst k1;simp at hi
   refine exec ⟨(ρ id).blk,(ρ id).off+i * sc.length+sub,none⟩ s' rfl ?_
   refine run_loadVar_cells (ρ:=ρ) (cs:=(enc sc (l.getD i (dfl sc))).map SV.v) (fun j v hv=>?_) h1 h2 h3
   rw [map_v] at hv
   have hj:j<sc.length:=by
    have:=(List.getElem?_eq_some_iff.1 hv).1
    rwa [enc_length] at this
   rw [← flat_drop sc l i hi,List.getElem?_take,if_pos hj,List.getElem?_drop] at hv
   rw [Nat.add_assoc]
   exact k4 _ _ hv
  | _=>cases hr
 | _=>cases hr
theorem storeS_sound {t ty:TypeId} {x y:Operand} (ho:o.op = .store t x y) (c:Cx B ρ h a w ev lo) {s sx:SV} {id off:Nat} {cs:List SV} (hx:ev x=some s) (hy:ev y=some sx) (hl:look h id=some (.cells ty cs))
 (hd:den ρ s = .pointer (some ⟨(ρ id).blk,(ρ id).off+off,none⟩)) (hr:(storeS P t ty id cs off sx).run h=some (out,ids)):Goal P B ρ h a w lo o out:=by
 unfold storeS at hr
 cases hz:szT P t with
 | none=>rw [hz] at hr;cases hr
 | some z =>
  rw [hz] at hr
  obtain ⟨hb,hr⟩:=cond_run hr
  have:=ret_run hr
  subst this
  simp only [Bool.and_eq_true] at hb
  obtain ⟨⟨b1,b2⟩,b3⟩:=hb
  have b1:=Nat.eq_of_beq_eq_true b1
  have b2:=Nat.le_of_ble_eq_true b2
  obtain ⟨k1,k2,k3⟩:=c.hr.ok _ _ hl
  obtain ⟨he,_⟩:=c.ev x s hx
  obtain ⟨hey,_⟩:=c.ev y sx hy
  have hst:=run_storeCells_at (P:=P) (ρ id).blk ((ρ id).off+off) ty (denL ρ (cellsS sx)) 0 (denL ρ cs) w k3 (by rw [k2,denL_length,denL_length,b1];omega) (allOne_den b3)
  rw [k2,Nat.zero_add,Nat.add_zero,← denL_repl] at hst
  have hsz:(den ρ sx).cells.size=z:=by rw [← Array.length_toList,cellsS_den,denL_length];exact b1
  refine Gives.skip (w':=w.setRow (ρ id).blk (denL ρ (repl cs off (cellsS sx))).toArray) ?_ ⟨ρ,?_⟩
  · unfold execOp
    simp only [ho,he,hd,hey,Instr.storeAt,Instr.sureAddr,Sem.run_bind,Sem.run_pure,Result.andThen_ok,storeVar,run_sizeOf' hz,hsz,ne_eq,not_true_eq_false,if_false]
    rw [k2,Nat.zero_add,cellsS_den,hst]
    rfl
  · have hlo:=(c.hf _ _ hl).1
    exact made_set (s:=.v undef) (o':=.cells ty (repl cs off (cellsS sx))) c.hr hlo hl rfl rfl k1 rfl rfl rfl (setRow_size _ _ _) (fun b hb=>setRow_other _ _ _ _ hb)
     ⟨k1,k2,setRow_heap _ _ _ _ _ _ k3⟩
theorem take_repl {α:Type} (c:List α) (o m:Nat) (xs:List α) (h:o+xs.length≤m) (hc:o≤c.length):(repl c o xs).take m=repl (c.take m) o xs:=by
 have h1:(c.take o ++ xs).length=o+xs.length:=by rw [List.length_append,List.length_take,Nat.min_eq_left hc]
 unfold repl
 rw [List.take_append,List.take_of_length_le (by rw [h1];exact h),List.take_take,Nat.min_eq_left (by omega),List.drop_take,h1]
theorem flat_set (s:List Sc):∀ (l:List (TT s)) (i:Nat) (y:TT s),i<l.length→flat s (l.set i y)=repl (flat s l) (i * s.length) (enc s y)
 | [],i,y,h=>by simp at h
 | x :: l,0,y,h=>by
  unfold repl
  simp only [flat,List.set_cons_zero,List.map_cons,List.flatten_cons,Nat.zero_mul,List.take_zero,List.nil_append,Nat.zero_add]
  rw [List.drop_append_of_le_length (by rw [enc_length,enc_length];exact Nat.le_refl _),List.drop_of_length_le (by rw [enc_length,enc_length];exact Nat.le_refl _),List.nil_append]
 | x :: l,i+1,y,h=>by
  have:=flat_set s l i y (by simpa using h)
  simp only [flat] at this
  simp only [flat,List.set_cons_succ,List.map_cons,List.flatten_cons,this]
  unfold repl
  have e:(i+1) * s.length=s.length+i * s.length:=by rw [Nat.succ_mul];omega
  rw [e,List.take_append,List.drop_append,enc_length,enc_length,Nat.add_sub_cancel_left,show s.length+i * s.length+s.length - s.length=i * s.length+s.length by omega,List.take_of_length_le (l:=enc s x) (by rw [enc_length];omega),List.drop_of_length_le (l:=enc s x) (by rw [enc_length];omega)]
  simp only [List.nil_append,List.append_assoc]
theorem storeWhole_sound {t ty:TypeId} {x y:Operand} {sc:List Sc} {l:List (TT sc)} (ho:o.op = .store t x y) (c:Cx B ρ h a w ev lo) {sx:SV} {id n i sub:Nat} (hx:ev x=some (.elt id n i sub)) (hy:ev y=some sx) (hl:look h id=some (.row ty sc l))
 {z:Nat} (hz:szT P t=some z) (hr:(storeWhole ty id sc l n i sub z sx).run h=some (out,ids)):Goal P B ρ h a w lo o out:=by
 unfold storeWhole at hr
 · cases hd:dec sc (cellsS sx) with
   | none=>rw [hd] at hr;cases hr
   | some u =>
    rw [hd] at hr
    obtain ⟨hb,hr⟩:=cond_run hr
    obtain ⟨hi,hr⟩:=br_run hr
    have:=ret_run hr
    subst this
    simp only [Bool.and_eq_true] at hb
    obtain ⟨b1,b2,b3⟩:=hb
    have b1:=Nat.eq_of_beq_eq_true b1
    have b2:=Nat.eq_of_beq_eq_true b2
    have b3:=Nat.eq_of_beq_eq_true b3
    have hi:i<l.length:=of_decide_eq_true hi
    subst b3
    have he0:denL ρ (cellsS sx)=enc sc u:=dec_enc ρ sc _ u hd
    obtain ⟨k0,k1⟩:=c.hr.ok _ _ hl
    rcases k1 with ⟨_,k1,_⟩|⟨k1,k2,k3,arr,k4,k5,k6⟩
    · subst k1;simp at hi
    · obtain ⟨he,_⟩:=c.ev x _ hx
      obtain ⟨hey,_⟩:=c.ev y sx hy
      have hin:i * sc.length+sc.length≤l.length * sc.length:=by
       have:=Nat.mul_le_mul_right sc.length (show i+1≤l.length from hi)
       rwa [Nat.succ_mul] at this
      have hcap:l.length * sc.length≤(ρ id).cap * sc.length:=Nat.mul_le_mul_right _ k3
      have hsl:arr.toList.length=(ρ id).cap * sc.length:=by rw [Array.length_toList,k5]
      have hst:=run_storeCells_at (P:=P) (ρ id).blk (i * sc.length) ty (denL ρ (cellsS sx)) 0 arr.toList w (by rw [Array.toArray_toList];exact k4) (by rw [he0,enc_length,hsl];omega) (by rw [he0];exact enc_one sc u)
      rw [Nat.add_zero] at hst
      have hsz:(den ρ sx).cells.size=z:=by rw [← Array.length_toList,cellsS_den,he0,enc_length];exact b1.symm
      have hd':den ρ (.elt id n i 0) = .pointer (some ⟨(ρ id).blk,i * sc.length,none⟩):=by simp only [den];rw [k2,b2,Nat.zero_add,Nat.add_zero]
      refine Gives.skip (w':=w.setRow (ρ id).blk (repl arr.toList (i * sc.length) (denL ρ (cellsS sx))).toArray) ?_ ⟨ρ,?_⟩
      · unfold execOp
        simp only [ho,he,hd',hey,Instr.storeAt,Instr.sureAddr,Sem.run_bind,Sem.run_pure,Result.andThen_ok,storeVar,run_sizeOf' hz,hsz,ne_eq,not_true_eq_false,if_false]
        rw [cellsS_den,hst]
        rfl
      · have hlo:=(c.hf _ _ hl).1
        refine made_set (s:=.v undef) (o':=.row ty sc (l.set i u)) c.hr hlo hl rfl rfl k1 rfl rfl rfl (setRow_size _ _ _) (fun b hb=>setRow_other _ _ _ _ hb) ?_
        refine ⟨by rw [List.length_set];exact k0,.inr ⟨k1,k2,by rw [List.length_set];exact k3,_,setRow_heap _ _ _ _ _ _ k4,?_,?_⟩⟩
        · rw [List.size_toArray,repl_length _ _ _ (by rw [he0,enc_length,hsl];omega),hsl]
        · rw [List.length_set,List.toList_toArray,take_repl _ _ _ _ (by rw [he0,enc_length];omega) (by rw [hsl];omega),k6,he0,flat_set sc l i u hi]
theorem repl_get {α:Type} (c:List α) (o:Nat) (xs:List α) (h:o+xs.length≤c.length) (j:Nat):(repl c o xs)[j]? = if j<o then c[j]? else if j<o+xs.length then xs[j - o]? else c[j]?:=by
 unfold repl
 have h1:(c.take o).length=o:=by rw [List.length_take];omega
 by_cases h2:j<o
 · rw [if_pos h2,List.append_assoc,List.getElem?_append_left (by omega),List.getElem?_take_of_lt h2]
 · rw [if_neg h2]
   by_cases h3:j<o+xs.length
   · rw [if_pos h3,List.append_assoc,List.getElem?_append_right (by omega),h1,List.getElem?_append_left (by omega)]
   · rw [if_neg h3,List.getElem?_append_right (by rw [List.length_append];omega),List.getElem?_drop,List.length_append,h1]
     congr 1;omega
theorem repl_in {α:Type} (c:List α) (o n sub:Nat) (xs:List α) (h1:o+n≤c.length) (h2:sub+xs.length≤n):repl c o (repl ((c.drop o).take n) sub xs)=repl c (o+sub) xs:=by
 have hd:((c.drop o).take n).length=n:=by rw [List.length_take,List.length_drop];omega
 have hl:(repl ((c.drop o).take n) sub xs).length=n:=by rw [repl_length _ _ _ (by omega)];exact hd
 apply List.ext_getElem?
 intro j
 rw [repl_get c o _ (by rw [hl];omega),repl_get c (o+sub) xs (by omega),hl]
 by_cases g1:j<o
 · rw [if_pos g1,if_pos (by omega)]
 · rw [if_neg g1]
   by_cases g2:j<o+n
   · rw [if_pos g2,repl_get _ _ _ (by omega)]
     by_cases g3:j<o+sub
     · rw [if_pos (by omega),if_pos g3,List.getElem?_take_of_lt (by omega),List.getElem?_drop]
       congr 1;omega
     · rw [if_neg (by omega),if_neg g3]
       by_cases g4:j<o+sub+xs.length
       · rw [if_pos (by omega),if_pos g4]
         congr 1;omega
       · rw [if_neg (by omega),if_neg g4,List.getElem?_take_of_lt (by omega),List.getElem?_drop]
         congr 1;omega
   · rw [if_neg g2,if_neg (by omega),if_neg (by omega)]
theorem storePart_sound {t ty:TypeId} {x y:Operand} {sc:List Sc} {l:List (TT sc)} (ho:o.op = .store t x y) (c:Cx B ρ h a w ev lo) {sx:SV} {id n i sub:Nat} (hx:ev x=some (.elt id n i sub)) (hy:ev y=some sx) (hl:look h id=some (.row ty sc l))
 {z:Nat} (hz:szT P t=some z) (hr:(storePart ty id sc l n i sub z sx).run h=some (out,ids)):Goal P B ρ h a w lo o out:=by
 unfold storePart at hr
 cases hd:dec sc (repl ((enc sc (l.getD i (dfl sc))).map SV.v) sub (cellsS sx)) with
  | none=>rw [hd] at hr;cases hr
  | some u =>
   rw [hd] at hr
   obtain ⟨hb,hr⟩:=cond_run hr
   obtain ⟨hi,hr⟩:=br_run hr
   have:=ret_run hr
   subst this
   simp only [Bool.and_eq_true] at hb
   obtain ⟨b1,b2,b3⟩:=hb
   have b1:=Nat.eq_of_beq_eq_true b1
   have b2:=Nat.eq_of_beq_eq_true b2
   have b3:=Nat.le_of_ble_eq_true b3
   have hi:i<l.length:=of_decide_eq_true hi
   have he0:repl (enc sc (l.getD i (dfl sc))) sub (denL ρ (cellsS sx))=enc sc u:=by
    have:=dec_enc ρ sc _ u hd
    rw [denL_repl,map_v] at this
    exact this
   have hxl:(denL ρ (cellsS sx)).length=z:=by rw [denL_length];exact b1
   have hone:∀ v∈denL ρ (cellsS sx),v.oneCell'=true:=by
    intro v hv
    refine enc_one sc u v ?_
    rw [← he0]
    unfold repl
    simp [hv]
   obtain ⟨k0,k1⟩:=c.hr.ok _ _ hl
   rcases k1 with ⟨_,k1,_⟩|⟨k1,k2,k3,arr,k4,k5,k6⟩
   · subst k1;simp at hi
   · obtain ⟨he,_⟩:=c.ev x _ hx
     obtain ⟨hey,_⟩:=c.ev y sx hy
     have hin:i * sc.length+sc.length≤l.length * sc.length:=by
      have:=Nat.mul_le_mul_right sc.length (show i+1≤l.length from hi)
      rwa [Nat.succ_mul] at this
     have hcap:l.length * sc.length≤(ρ id).cap * sc.length:=Nat.mul_le_mul_right _ k3
     have hsl:arr.toList.length=(ρ id).cap * sc.length:=by rw [Array.length_toList,k5]
     have hst:=run_storeCells_at (P:=P) (ρ id).blk (i * sc.length+sub) ty (denL ρ (cellsS sx)) 0 arr.toList w (by rw [Array.toArray_toList];exact k4) (by rw [hxl,hsl];omega) hone
     rw [Nat.add_zero] at hst
     have hsz:(den ρ sx).cells.size=z:=by rw [← Array.length_toList,cellsS_den,denL_length];exact b1
     have hd':den ρ (.elt id n i sub) = .pointer (some ⟨(ρ id).blk,i * sc.length+sub,none⟩):=by simp only [den];rw [k2,b2,Nat.zero_add]
     have hfl:(flat sc l).length=l.length * sc.length:=flat_length sc l
     have hflat:repl (flat sc l) (i * sc.length+sub) (denL ρ (cellsS sx))=flat sc (l.set i u):=by
      rw [flat_set sc l i u hi,← he0,← flat_drop sc l i hi,repl_in _ _ _ _ _ (by rw [hfl];exact hin) (by rw [hxl];exact b3)]
     refine Gives.skip (w':=w.setRow (ρ id).blk (repl arr.toList (i * sc.length+sub) (denL ρ (cellsS sx))).toArray) ?_ ⟨ρ,?_⟩
     · unfold execOp
       simp only [ho,he,hd',hey,Instr.storeAt,Instr.sureAddr,Sem.run_bind,Sem.run_pure,Result.andThen_ok,storeVar,run_sizeOf' hz,hsz,ne_eq,not_true_eq_false,if_false]
       rw [cellsS_den,hst]
       rfl
     · have hlo:=(c.hf _ _ hl).1
       refine made_set (s:=.v undef) (o':=.row ty sc (l.set i u)) c.hr hlo hl rfl rfl k1 rfl rfl rfl (setRow_size _ _ _) (fun b hb=>setRow_other _ _ _ _ hb) ?_
       refine ⟨by rw [List.length_set];exact k0,.inr ⟨k1,k2,by rw [List.length_set];exact k3,_,setRow_heap _ _ _ _ _ _ k4,?_,?_⟩⟩
       · rw [List.size_toArray,repl_length _ _ _ (by rw [hxl,hsl];omega),hsl]
       · rw [List.length_set,List.toList_toArray,take_repl _ _ _ _ (by rw [hxl];omega) (by rw [hsl];omega),k6,hflat]
theorem storeRowS_sound {t ty:TypeId} {x y:Operand} {sc:List Sc} {l:List (TT sc)} (ho:o.op = .store t x y) (c:Cx B ρ h a w ev lo) {sx:SV} {id n i sub:Nat} (hx:ev x=some (.elt id n i sub)) (hy:ev y=some sx) (hl:look h id=some (.row ty sc l))
 (hr:(storeRowS P t ty id sc l n i sub sx).run h=some (out,ids)):Goal P B ρ h a w lo o out:=by
 unfold storeRowS at hr
 cases hz:szT P t with
 | none=>rw [hz] at hr;cases hr
 | some z =>
  rw [hz] at hr
  simp only at hr
  cases hb:Nat.beq z sc.length with
  | true=>rw [hb] at hr;exact storeWhole_sound ho c hx hy hl hz hr
  | false=>rw [hb] at hr;exact storePart_sound ho c hx hy hl hz hr
theorem store_sound {t:TypeId} {x y:Operand} (ho:o.op = .store t x y) (c:Cx B ρ h a w ev lo) (hr:(eff P C o ev lo).run h=some (out,ids)):Goal P B ρ h a w lo o out:=by
 unfold eff at hr
 rw [ho] at hr
 obtain ⟨s,hs,hr⟩:=w1_run hr
 obtain ⟨sx,hsx,hr⟩:=w1_run hr
 cases s with
 | ptr id off =>
  obtain ⟨ob,ids',hl,hr⟩:=obj_run hr
  cases ob with
  | cells ty cs=>exact storeS_sound ho c hs hsx hl rfl hr
  | _=>cases hr
 | elt id n i sub =>
  obtain ⟨ob,ids',hl,hr⟩:=obj_run hr
  cases ob with
  | cells ty cs=>exact storeS_sound ho c hs hsx hl (by simp only [den];rw [Nat.add_assoc]) hr
  | row ty sc l=>exact storeRowS_sound ho c hs hsx hl hr
  | _=>cases hr
 | _=>cases hr
end
end Go.Proofs.Ytlfkfajodnkkhaa.Ax
namespace Go.Proofs.Ytlfkfajodnkkhaa.Ax
open Go Go.RowKit
set_option linter.unusedVariables false
set_option linter.unusedSimpArgs false
section
variable {P:Program} {C:FuncId→Option Con} {B:Nat→Prop} {ρ:Rho} {h:Hp} {a:Act} {w:World} {ev:Operand→Option SV} {lo:Nat} {o:Oper} {out:Out} {ids:List Nat}
theorem move_sound {x:Operand} (ho:o.op = .move x∨o.op = .assign x) (c:Cx B ρ h a w ev lo) (hr:(w1 (ev x) fun s=>(Rd.ret ⟨s,[]⟩:Rd Out)).run h=some (out,ids)):Goal P B ρ h a w lo o out:=by
 obtain ⟨s,hs,hr⟩:=w1_run hr
 have:=ret_run (h:=h) hr
 subst this
 refine goal_pure c ?_
 rw [← (c.ev x s hs).1]
 unfold execOp
 rcases ho with ho|ho<;>rw [ho]<;>rfl
theorem pick_sound {x y z:Operand} (ho:o.op = .pick x y z) (c:Cx B ρ h a w ev lo) (hr:(eff P C o ev lo).run h=some (out,ids)):Goal P B ρ h a w lo o out:=by
 unfold eff at hr
 rw [ho] at hr
 obtain ⟨s,hs,hr⟩:=w1_run hr
 obtain ⟨s1,hs1,hr⟩:=w1_run hr
 obtain ⟨s2,hs2,hr⟩:=w1_run hr
 have e0:=(c.ev _ _ hs).1
 have e1:=(c.ev _ _ hs1).1
 have e2:=(c.ev _ _ hs2).1
 cases s with
 | v x' =>
  cases x' with
  | bool t =>
   cases t with
   | true =>
    have:=ret_run (h:=h) hr
    subst this
    refine goal_pure c ?_
    unfold execOp
    simp only [ho,e0,den,asBool,Sem.run_bind,Sem.run_pure,Result.andThen_ok,if_true,e1]
   | false =>
    have:=ret_run (h:=h) hr
    subst this
    refine goal_pure c ?_
    unfold execOp
    simp only [ho,e0,den,asBool,Sem.run_bind,Sem.run_pure,Result.andThen_ok,Bool.false_eq_true,if_false,e2]
  | _=>cases hr
 | _=>cases hr
theorem cells_toArray (ρ:Rho) (s:SV):(den ρ s).cells=(denL ρ (cellsS s)).toArray:=by
 apply Array.ext'
 rw [cellsS_den]
theorem new_value (c:Cx B ρ h a w ev lo) {s:SV} {ty:TypeId} {cs:List SV} {n cap:Nat} (hc:freeL lo (lo+wide) cs=true)
 (hrun:(execOp a.eval o).run P w = .ok (.value (den (setRho ρ lo ⟨w.heap.size,0,n,cap,false,none⟩) s)) (w.alloc (.cells (denL ρ cs).toArray ty))) :
 Goal P B ρ h a w lo o ⟨s,[(lo,.cells ty cs)]⟩ :=
 Gives.value hrun ⟨_,made_cells c.hr c.hf (by unfold wide;omega) c.up hc n cap⟩
theorem box_sound {t:TypeId} {x:Operand} (ho:o.op = .box t x) (c:Cx B ρ h a w ev lo) (hr:(eff P C o ev lo).run h=some (out,ids)):Goal P B ρ h a w lo o out:=by
 unfold eff at hr
 rw [ho] at hr
 obtain ⟨s,hs,hr⟩:=w1_run hr
 have:=ret_run (h:=h) hr
 subst this
 obtain ⟨e,hf⟩:=c.ev _ _ hs
 refine new_value (n:=0) (cap:=0) c (cellsS_free hf) ?_
 unfold execOp
 simp only [ho,e,Instr.box,newVar,newRow,cells_toArray,Sem.run_bind,run_newObj_alloc,Result.andThen_ok,Sem.run_pure,den,setRho_same,Nat.add_zero]
theorem alloc_sound {t:TypeId} (ho:o.op = .alloc t) (c:Cx B ρ h a w ev lo) (hr:(eff P C o ev lo).run h=some (out,ids)):Goal P B ρ h a w lo o out:=by
 unfold eff at hr
 rw [ho] at hr
 simp only at hr
 cases hz:zeroT P t with
 | none=>rw [hz] at hr;cases hr
 | some z =>
  rw [hz] at hr
  have:=ret_run (h:=h) hr
  subst this
  unfold zeroT at hz
  cases hi:P.info? t with
  | none=>rw [hi] at hz;cases hz
  | some i =>
   rw [hi] at hz
   simp only at hz
   cases hzz:i.zero with
   | none=>rw [hzz] at hz;cases hz
   | some v =>
    rw [hzz] at hz
    cases hz
    refine new_value (n:=0) (cap:=0) c (freeL_map_v _ _ _) ?_
    unfold execOp
    rw [map_v]
    simp only [ho,Instr.alloc,zeroValue,typeInfo,hi,hzz,newVar,newRow,Sem.run_bind,run_program,run_newObj_alloc,Result.andThen_ok,Sem.run_pure,den,setRho_same,Nat.add_zero]
theorem ckFs_sound {rec:TypeId→SV→Bool} {n:Nat} {b:Bool} (hrec:∀ t s,rec t s=true→(Instr.checkKey b n t (den ρ s)).run P w = .ok () w) {xs:List SV} {F:Field→PUnit→Sem (ForInStep PUnit)}
 (hF : ∀ f, (F f ⟨⟩).run P w = (if f.name ≠ "_" then (part f.type (denL ρ xs).toArray f.offset >>= fun x => Instr.checkKey b n f.type x >>= fun _ => pure (ForInStep.yield ⟨⟩) : Sem (ForInStep PUnit)) else pure (ForInStep.yield ⟨⟩)).run P w) :
 ∀ {fs:List Field},ckFs P rec xs fs=true→(forIn fs PUnit.unit F).run P w = .ok () w
 | [],_=>rfl
 | f :: fs,h=>by
  simp only [ckFs] at h
  simp only [List.forIn_cons,Sem.run_bind,hF,Sem.run_ite]
  cases hn : decEq f.name "_" with
  | isTrue hn' =>
   rw [hn] at h
   rw [if_neg (by simpa using hn')]
   simp only [Sem.run_pure,Result.andThen_ok]
   exact ckFs_sound hrec hF h
  | isFalse hn' =>
   rw [hn] at h
   rw [if_pos (by simpa using hn')]
   simp only at h
   split at h
   · cases h
   · rename_i g hg
     split at h
     · cases h
     · rename_i z hz
       split at h
       · cases h
       · rename_i a ha
         rw [Bool.and_eq_true] at h
         simp only [Sem.run_bind,run_part_at (w:=w) (ρ:=ρ) hg hz ha,Result.andThen_ok,hrec _ _ h.1,Sem.run_pure]
         exact ckFs_sound hrec hF h.2
theorem ckT_sound:∀ {d:Nat} {t:TypeId} {s:SV} {b:Bool},ckT P d t s=true→∀ n,d≤n→(Instr.checkKey b n t (den ρ s)).run P w = .ok () w
 | 0,_,_,_,h,_,_=>by cases h
 | d+1,t,s,b,h,n,hn=>by
  obtain ⟨n,rfl⟩:∃ m,n=m+1:=⟨n - 1,by omega⟩
  have hrec:∀ t s,ckT P d t s=true→(Instr.checkKey b n t (den ρ s)).run P w = .ok () w:=fun t s h=>ckT_sound h n (by omega)
  simp only [ckT] at h
  split at h
  · rename_i k hu
    simp only [Instr.checkKey,Sem.run_bind,run_underlying hu,Result.andThen_ok]
    rfl
  · rename_i hu
    simp only [Instr.checkKey,Sem.run_bind,run_underlying hu,Result.andThen_ok]
    rfl
  · rename_i hu
    simp only [Instr.checkKey,Sem.run_bind,run_underlying hu,Result.andThen_ok]
    rfl
  · rename_i fields hu
    split at h
    · cases h
    · rename_i xs hx
      rw [aggL_den hx]
      simp only [Instr.checkKey,Sem.run_bind,run_underlying hu,Result.andThen_ok]
      rw [← Array.forIn_toList]
      rw [ckFs_sound hrec (fun f=>rfl) h]
      rfl
  · cases h
theorem makeMap_sound {t:TypeId} {r:Option Operand} (ho:o.op = .makeMap t r) (c:Cx B ρ h a w ev lo) (hr:(eff P C o ev lo).run h=some (out,ids)):Goal P B ρ h a w lo o out:=by
 unfold eff at hr
 rw [ho] at hr
 cases r with
 | some x=>cases hr
 | none =>
 replace hr:(makeMapS P t lo).run h=some (out,ids):=hr
 unfold makeMapS at hr
 split at hr
 · rename_i k e hu
   split at hr
   · cases hr
   · rename_i ks hk
     split at hr
     · cases hr
     · rename_i vs hv
       have:=ret_run (h:=h) hr
       subst this
       have hrun:(execOp a.eval o).run P w = .ok (.value (.map (some w.heap.size))) (w.alloc (.map #[] 0)):=by
        unfold execOp
        simp only [ho,Option.map_none,Instr.makeMap,Sem.run_bind,run_newObj_alloc,Result.andThen_ok,Sem.run_pure]
       obtain ⟨w',hw'⟩:∃ w',w'=w.alloc (.map #[] 0):=⟨_,rfl⟩
       rw [← hw'] at hrun
       have hold:∀ b,b<w.heap.size→w'.heap[b]? = w.heap[b]?:=fun b hb=>by rw [hw'];exact Below.heap_alloc w _ b hb
       have m:=made_new (B:=B) (lo:=lo) (hi:=lo+wide) (s:=.map lo) (o:=.mapo ks vs []) (L:=⟨w.heap.size,0,0,0,false,none⟩) c.hr c.hf (by unfold wide;omega) c.up (w':=w')
        ⟨by rw [hw'];rfl,by rw [hw'];rfl,by rw [hw'];rfl,by rw [hw'];simp,fun b hb=>hold b (by
         rcases Nat.lt_or_ge b w.heap.size with h'|h'
         · exact h'
         · exact absurd (c.up b h') hb)⟩
        hold rfl (fun _=>Nat.le_refl _) ⟨rfl,rfl,#[],0,by rw [hw'];exact heap_alloc_new w _,by simp,by simp,by simp⟩
       refine Gives.value (w':=w') (v:=den (setRho ρ lo ⟨w.heap.size,0,0,0,false,none⟩) (.map lo)) ?_ ⟨_,m⟩
       rw [hrun]
       simp only [den,setRho_same]
 · cases hr
theorem build_sound {t:TypeId} {parts:Array (Nat × Operand)} (ho:o.op = .build t parts) (c:Cx B ρ h a w ev lo) (hr:(eff P C o ev lo).run h=some (out,ids)):Goal P B ρ h a w lo o out:=by
 unfold eff at hr
 rw [ho] at hr
 simp only at hr
 cases hp:evParts ev parts.toList with
 | none=>rw [hp] at hr;cases hr
 | some ps =>
  rw [hp] at hr
  simp only at hr
  cases hb:builtS P t ps with
  | none=>rw [hb] at hr;cases hr
  | some cs =>
   rw [hb] at hr
   have:=ret_run (h:=h) hr
   subst this
   refine goal_pure c ?_
   have h1:=builtS_den ρ hb
   rw [← (evParts_den c hp).1,← parts_map] at h1
   unfold execOp
   simp only [ho,Sem.run_bind,run_build w t _ _ h1,Result.andThen_ok,Sem.run_pure,den]
theorem emptyS_sound {t:TypeId} {len e:Nat} {parts:Array (Nat × Operand)} {ps:List (Nat × SV)} {ie:TypeInfo} {z:Value} (ho:o.op = .buildSlice t len parts) (c:Cx B ρ h a w ev lo) (hp:evParts ev parts.toList=some ps) (hu:P.underlying t=some (.slice e)) (hi:P.info? e=some ie) (hz:ie.zero=some z)
 (hr:(emptyS e len ie.size z.cells.toList ps lo).run h=some (out,ids)):Goal P B ρ h a w lo o out:=by
 unfold emptyS at hr
 obtain ⟨hb,hr1⟩:=cond_run hr
 clear hr
 have hr:=hr1
 clear hr1
 rw [Bool.and_eq_true] at hb
 obtain rfl:=Nat.eq_of_beq_eq_true hb.1
 have hps:ps=[]:=List.isEmpty_iff.1 hb.2
 subst hps
 have hpa:parts = #[]:=by
  have:parts.toList=[]:=by
   cases hq:parts.toList with
   | nil=>rfl
   | cons x l =>
    rw [hq] at hp
    obtain ⟨i,x⟩:=x
    simp only [evParts] at hp
    split at hp
    · cases hp
    · split at hp<;>cases hp
  exact Array.toList_eq_nil_iff.1 this
 subst hpa
 split at hr
 · cases hr
 · rename_i sc hsc
   obtain ⟨hn,hr2⟩:=cond_run hr
   have:=ret_run (h:=h) hr2
   subst this
   have hrun:(execOp a.eval o).run P w = .ok (.value (.slice (some ⟨w.heap.size,0,none⟩) 0 0)) (w.alloc (.cells #[] e)):=by
    unfold execOp
    simp [ho,Instr.buildSlice,run_underlying hu,sizeOf,typeInfo,hi,Instr.fill,newRow,run_newObj_alloc]
    have h0:Array.map (fun _=>(default:Value)) (Array.range 0) = #[]:=Array.eq_empty_of_size_eq_zero (by simp)
    rw [h0]
   obtain ⟨w',hw'⟩:∃ w',w'=w.alloc (.cells #[] e):=⟨_,rfl⟩
   rw [← hw'] at hrun
   have hold:∀ b,b<w.heap.size→w'.heap[b]? = w.heap[b]?:=fun b hb=>by rw [hw'];exact Below.heap_alloc w _ b hb
   have m:=made_new (B:=B) (lo:=lo) (hi:=lo+wide) (s:=.all lo) (o:=.row e sc []) (L:=⟨w.heap.size,0,0,0,false,none⟩) c.hr c.hf (by unfold wide;omega) c.up (w':=w')
    ⟨by rw [hw'];rfl,by rw [hw'];rfl,by rw [hw'];rfl,by rw [hw'];simp,fun b hb=>hold b (by
     rcases Nat.lt_or_ge b w.heap.size with h'|h'
     · exact h'
     · exact absurd (c.up b h') hb)⟩
    hold rfl (fun _=>Nat.le_refl _) ⟨rfl,.inr ⟨rfl,rfl,Nat.le_refl _,#[],by rw [hw'];exact heap_alloc_new w _,by simp,by simp [flat]⟩⟩
   refine Gives.value (w':=w') (v:=den (setRho ρ lo ⟨w.heap.size,0,0,0,false,none⟩) (.all lo)) ?_ ⟨_,m⟩
   rw [hrun]
   simp only [den,setRho_same]
   rfl
theorem buildSlice_sound {t:TypeId} {len:Nat} {parts:Array (Nat × Operand)} (ho:o.op = .buildSlice t len parts) (c:Cx B ρ h a w ev lo) (hr:(eff P C o ev lo).run h=some (out,ids)):Goal P B ρ h a w lo o out:=by
 unfold eff at hr
 rw [ho] at hr
 simp only at hr
 cases hp:evParts ev parts.toList with
 | none=>rw [hp] at hr;cases hr
 | some ps =>
  rw [hp] at hr
  simp only at hr
  cases hu:P.underlying t with
  | none=>rw [hu] at hr;cases hr
  | some d =>
   rw [hu] at hr
   cases d<;>try (cases hr;done)
   case slice e =>
    simp only at hr
    unfold szT zeroT at hr
    cases hi:P.info? e with
    | none=>rw [hi] at hr;cases hr
    | some ie =>
     rw [hi] at hr
     simp only [Option.map_some] at hr
     cases hz:ie.zero with
     | none=>rw [hz] at hr;cases hr
     | some z =>
      rw [hz] at hr
      simp only at hr
      cases hcb:(Nat.ble (len * ie.size) 16777216 && !(Nat.beq (len * ie.size) 0)) with
      | false =>
       rw [hcb] at hr
       simp only [cond_false] at hr
       exact emptyS_sound ho c hp hu hi hz hr
      | true =>
      rw [hcb] at hr
      simp only [cond_true] at hr
      have hb:=hcb
      simp only [Bool.and_eq_true,Bool.not_eq_true'] at hb
      obtain ⟨b1,b2⟩:=hb
      have b1:=Nat.le_of_ble_eq_true b1
      have b2:¬ len * ie.size=0:=fun e'=>by rw [e'] at b2;cases b2
      cases hf:fillS (fun i=>some (i * ie.size,ie.size)) ((zerosS z.cells.toList (len * ie.size)).map SV.v) ps with
      | none=>rw [hf] at hr;cases hr
      | some cs =>
       rw [hf] at hr
       have:=ret_run (h:=h) hr
       subst this
       have h1:=fillS_den ρ _ _ _ _ hf
       rw [map_v,← zerosS_eq,← (evParts_den c hp).1,← parts_map] at h1
       refine new_value (n:=0) (cap:=0) c (fillS_free hf (freeL_map_v _ _ _) (evParts_den c hp).2) ?_
       unfold execOp
       simp only [ho,Sem.run_bind,run_buildSlice w t e len _ _ ie z hu hi hz (by omega) b2 h1,Result.andThen_ok,Sem.run_pure,den,setRho_same,Bool.false_eq_true,if_false,Nat.zero_mul,Nat.add_zero]
theorem nil_sound {x:Operand} (ho:o.op = .nilCheck x) (c:Cx B ρ h a w ev lo) (hr:(eff P C o ev lo).run h=some (out,ids)):Goal P B ρ h a w lo o out:=by
 unfold eff at hr
 rw [ho] at hr
 obtain ⟨s,hs,hr⟩:=w1_run hr
 obtain ⟨e,hf⟩:=c.ev _ _ hs
 unfold nilS at hr
 split at hr
 · have:=ret_run (h:=h) hr;subst this
   refine goal_pure c ?_
   unfold execOp;simp only [ho,e,den,Sem.run_pure]
 · have:=ret_run (h:=h) hr;subst this
   refine goal_pure c ?_
   unfold execOp;simp only [ho,e,den,Sem.run_pure]
 · have:=ret_run (h:=h) hr;subst this
   refine goal_pure c ?_
   unfold execOp;simp only [ho,e,den,Sem.run_pure]
 · cases hr
theorem bind_run {α β:Type} {r:Rd α} {f:α→Rd β} : ∀ {b:β} {ids:List Nat},(r.bind f).run h=some (b,ids)→∃ x l l',r.run h=some (x,l)∧(f x).run h=some (b,l'):=by
 induction r with
 | ret x=>intro b ids hr;exact ⟨x,[],ids,rfl,hr⟩
 | fail=>intro b ids hr;cases hr
 | obj id k ih =>
  intro b ids hr
  obtain ⟨o',l,h1,h2⟩:=obj_run hr
  obtain ⟨x,l1,l2,h3,h4⟩:=ih o' h2
  exact ⟨x,id :: l1,l2,by simp only [Rd.run,h1,h3,Option.map_some],h4⟩
 | br t x y ihx ihy =>
  intro b ids hr
  cases t with
  | true=>exact ihx hr
  | false=>exact ihy hr
 | opt x k ih =>
  intro b ids hr
  cases x with
  | none=>cases hr
  | some y=>exact ih y hr
 | cps f nat k ih =>
  intro b ids hr
  simp only [Rd.bind,Rd.run] at hr
  split at hr
  · rename_i y hy
    obtain ⟨x,l,l',h1,h2⟩:=ih y hr
    exact ⟨x,l,l',by simp only [Rd.run,hy];exact h1,h2⟩
  · cases hr
theorem eqAt_run {rec:TypeId→SV→SV→Rd Bool} {t:TypeId} {xs ys:List SV} {off:Nat} {k:Bool→Rd Bool} {r:Bool} {ids:List Nat} (hr:(eqAt P rec t xs ys off k).run h=some (r,ids)) :
 ∃ a b r1 l l',(part t (denL ρ xs).toArray off).run P w = .ok (den ρ a) w∧(part t (denL ρ ys).toArray off).run P w = .ok (den ρ b) w∧(rec t a b).run h=some (r1,l)∧(k r1).run h=some (r,l'):=by
 unfold eqAt at hr
 cases hg:aggT P t with
 | none=>rw [hg] at hr;cases hr
 | some g =>
  rw [hg] at hr
  cases hz:szT P t with
  | none=>rw [hz] at hr;cases hr
  | some z =>
   rw [hz] at hr
   simp only at hr
   cases ha:part1 xs g off z with
   | none=>rw [ha] at hr;cases hr
   | some a =>
    rw [ha] at hr
    simp only at hr
    cases hb:part1 ys g off z with
    | none=>rw [hb] at hr;cases hr
    | some b =>
     rw [hb] at hr
     obtain ⟨r1,l,l',h1,h2⟩:=bind_run hr
     exact ⟨a,b,r1,l,l',run_part_at hg hz ha,run_part_at hg hz hb,h1,h2⟩
theorem eqFs_sound {rec:TypeId→SV→SV→Rd Bool} {d:Nat} (hrec:∀ t a b r l,(rec t a b).run h=some (r,l)→(Op.equalIn d t (den ρ a) (den ρ b)).run P w = .ok r w) {xs ys:List SV} :
 ∀ {fs:List Field} {r:Bool} {ids:List Nat},(eqFs P rec xs ys fs).run h=some (r,ids)→(Op.eqFields d (denL ρ xs).toArray (denL ρ ys).toArray fs).run P w = .ok r w
 | [],r,ids,hr=>by cases hr;rfl
 | f :: fs,r,ids,hr=>by
  simp only [eqFs] at hr
  simp only [Op.eqFields,Sem.run_ite]
  cases hn : decEq f.name "_" with
  | isTrue hn' =>
   rw [hn] at hr
   rw [if_neg (by simpa using hn')]
   exact eqFs_sound hrec hr
  | isFalse hn' =>
   rw [hn] at hr
   rw [if_pos (by simpa using hn')]
   obtain ⟨a,b,r1,l,l',h1,h2,h3,h4⟩:=eqAt_run (ρ:=ρ) (w:=w) hr
   obtain ⟨r2,m,m',h5,h6⟩:=bind_run h4
   cases h6
   have ih:=eqFs_sound hrec h5
   simp only [Sem.run_bind,h1,h2,hrec _ _ _ _ _ h3,Result.andThen_ok,Sem.run_ite]
   cases r1 with
   | true=>simpa using ih
   | false=>simp
def eqEsM (P:Program) (d:Nat) (e n:Nat) (xs ys:Array Value):Nat→Nat→Sem Bool
 | 0,_=>pure true
 | m+1,i=>do
  let a ← part e xs (i * n)
  let b ← part e ys (i * n)
  let r ← Op.equalIn d e a b
  if (!r)=true then pure false else eqEsM P d e n xs ys m (i+1)
theorem run_equalIn_array {t e:TypeId} {len n:Nat} (d:Nat) (xs ys:Array Value) (ht:P.underlying t=some (.array len e)) (hn:szT P e=some n) :
 (Op.equalIn (d+1) t (.agg xs) (.agg ys)).run P w=(eqEsM P d e n xs ys len 0).run P w:=by
 simp only [Op.equalIn,Sem.run_bind,run_underlying ht,Result.andThen_ok,run_sizeOf' hn]
 rw [Std.Legacy.Range.forIn_eq_forIn_range']
 simp only [Std.Legacy.Range.size,Nat.sub_zero,Nat.add_sub_cancel,Nat.div_one]
 generalize 0=i
 clear ht
 induction len generalizing i w with
 | zero=>simp [eqEsM]
 | succ m ih =>
  simp only [List.range'_succ,List.forIn_cons,eqEsM,Sem.run_bind]
  generalize (part e xs (i * n)).run P w=r1
  cases r1 with
  | ok a w1 =>
   simp only [Result.andThen_ok]
   generalize (part e ys (i * n)).run P w1=r2
   cases r2 with
   | ok b w2 =>
    simp only [Result.andThen_ok]
    generalize (Op.equalIn d e a b).run P w2=r3
    cases r3 with
    | ok r w3 =>
     cases r
     · simp only [Result.andThen_ok,Bool.not_false,if_true,Sem.run_pure]
     · simp only [Result.andThen_ok,Bool.not_true,Bool.false_eq_true,if_false,Sem.run_pure]
       exact ih (w:=w3) (i+1)
    | halt x w3=>simp [Result.andThen]
   | halt x w2=>simp [Result.andThen]
  | halt x w1=>simp [Result.andThen]
theorem eqEs_sound {rec:TypeId→SV→SV→Rd Bool} {d:Nat} (hrec:∀ t a b r l,(rec t a b).run h=some (r,l)→(Op.equalIn d t (den ρ a) (den ρ b)).run P w = .ok r w) {e n:Nat} {xs ys:List SV} :
 ∀ {m i:Nat} {r:Bool} {ids:List Nat},(eqEs P rec e n xs ys m i).run h=some (r,ids)→(eqEsM P d e n (denL ρ xs).toArray (denL ρ ys).toArray m i).run P w = .ok r w
 | 0,i,r,ids,hr=>by cases hr;rfl
 | m+1,i,r,ids,hr=>by
  simp only [eqEs] at hr
  simp only [eqEsM]
  obtain ⟨a,b,r1,l,l',h1,h2,h3,h4⟩:=eqAt_run (ρ:=ρ) (w:=w) hr
  obtain ⟨r2,m',m'',h5,h6⟩:=bind_run h4
  cases h6
  have ih:=eqEs_sound hrec h5
  simp only [Sem.run_bind,h1,h2,hrec _ _ _ _ _ h3,Result.andThen_ok,Sem.run_ite]
  cases r1 with
  | true=>simpa using ih
  | false=>simp
theorem eqT_sound:∀ {d:Nat} {t:TypeId} {x y:SV} {r:Bool} {ids:List Nat},(eqT P d t x y).run h=some (r,ids)→∀ D,d≤D→(Op.equalIn D t (den ρ x) (den ρ y)).run P w = .ok r w
 | 0,t,x,y,r,ids,hr,D,hD=>by cases hr
 | d+1,t,x,y,r,ids,hr,D,hD=>by
  obtain ⟨E,rfl⟩:∃ E,D=E+1:=⟨D - 1,by omega⟩
  have hrec:∀ t a b r l,(eqT P d t a b).run h=some (r,l)→(Op.equalIn E t (den ρ a) (den ρ b)).run P w = .ok r w:=fun t a b r l h1=>eqT_sound h1 E (by omega)
  simp only [eqT] at hr
  cases hu:P.underlying t with
  | none=>rw [hu] at hr;cases hr
  | some u =>
   rw [hu] at hr
   simp only at hr
   split at hr
   · split at hr
     · split at hr
       · cases hr
         simp only [den,Op.equalIn,Sem.run_bind,run_underlying hu,Result.andThen_ok,Sem.run_pure]
       · cases hr
     · cases hr
   · split at hr
     · split at hr
       · split at hr
         · rename_i hk _
           cases hr
           subst hk
           simp only [den,Op.equalIn,Sem.run_bind,run_underlying hu,Result.andThen_ok,Sem.run_pure,if_true]
         · cases hr
       · cases hr
     · cases hr
   · split at hr
     · split at hr
       · cases hr
         simp only [den,Op.equalIn,Sem.run_bind,run_underlying hu,Result.andThen_ok,Sem.run_pure]
       · cases hr
     · cases hr
   · rename_i fields
     split at hr
     · cases hr
     · rename_i hst
       split at hr
       · cases hr
       · rename_i xs hx
         split at hr
         · cases hr
         · rename_i ys hy
           rw [aggL_den hx,aggL_den hy]
           have hf:P.fieldsOf t=fields:=by unfold Program.fieldsOf;rw [hu]
           rw [run_equalIn_struct w E t _ _ (by rw [hf];exact hu) hst,hf]
           exact eqFs_sound hrec hr
   · rename_i len e
     split at hr
     · cases hr
     · rename_i n hn
       split at hr
       · cases hr
       · rename_i xs hx
         split at hr
         · cases hr
         · rename_i ys hy
           rw [aggL_den hx,aggL_den hy,run_equalIn_array E _ _ hu hn]
           exact eqEs_sound hrec hr
   · cases hr
theorem eqS_sound {op:BinOp} {t:TypeId} {x y:SV} {out:Out} {ids:List Nat} (hr:(eqS P op t x y).run h=some (out,ids)) (X Y:Operand):out.upd=[]∧
 ((do eqGuard op t X Y (den ρ x) (den ρ y);binOp op t (den ρ x) (den ρ y):Sem Value)).run P w = .ok (den ρ out.val) w:=by
 unfold eqS at hr
 split at hr
 · cases hr
 · rename_i hg
   split at hr
   · cases hr
   · rename_i xs hx
     split at hr
     · cases hr
     · rename_i ys hy
       have guard:∀ op,(eqGuard op t X Y (den ρ x) (den ρ y)).run P w = .ok () w:=by
        intro op
        rw [aggL_den hx,aggL_den hy]
        cases op<;>first|rfl|(simp [eqGuard,Sem.run_bind,run_program,hg])
       split at hr
       · obtain ⟨r,l,l',h1,h2⟩:=bind_run hr
         cases h2
         refine ⟨rfl,?_⟩
         have he:=eqT_sound (ρ:=ρ) (w:=w) h1 Op.maxDepth (by decide)
         rw [Sem.run_bind,guard,Result.andThen_ok]
         rw [aggL_den hx,aggL_den hy] at he ⊢
         show ((do pure (.bool (← Op.equal t (.agg (denL ρ xs).toArray) (.agg (denL ρ ys).toArray))):Sem Value)).run P w=_
         unfold Op.equal
         simp only [Sem.run_bind,he,Result.andThen_ok,Sem.run_pure,den]
       · obtain ⟨r,l,l',h1,h2⟩:=bind_run hr
         cases h2
         refine ⟨rfl,?_⟩
         have he:=eqT_sound (ρ:=ρ) (w:=w) h1 Op.maxDepth (by decide)
         rw [Sem.run_bind,guard,Result.andThen_ok]
         rw [aggL_den hx,aggL_den hy] at he ⊢
         show ((do pure (.bool (!(← Op.equal t (.agg (denL ρ xs).toArray) (.agg (denL ρ ys).toArray)))):Sem Value)).run P w=_
         unfold Op.equal
         simp only [Sem.run_bind,he,Result.andThen_ok,Sem.run_pure,den]
       · cases hr
theorem eqNil_sound {t:TypeId} {x y:SV} {r:Bool} (hr:eqNil P t x y=some r):(Op.equal t (den ρ x) (den ρ y)).run P w = .ok r w∧∃ a b,den ρ x = .pointer a∧den ρ y = .pointer b:=by
 unfold eqNil at hr
 cases hx:nilP x with
 | none=>rw [hx] at hr;cases hr
 | some a =>
  rw [hx] at hr
  cases hy:nilP y with
  | none=>rw [hy] at hr;cases hr
  | some b =>
   rw [hy] at hr
   obtain ⟨p,hp,hpn⟩:=nilP_den (ρ:=ρ) hx
   obtain ⟨q,hq,hqn⟩:=nilP_den (ρ:=ρ) hy
   refine ⟨?_,p,q,hp,hq⟩
   rw [hp,hq]
   cases hu:P.underlying t with
   | none=>rw [hu] at hr;cases a<;>cases b<;>cases hr
   | some d =>
    rw [hu] at hr
    cases d<;>try (cases a<;>cases b<;>cases hr;done)
    case pointer e =>
     have gen:∀ d,(Op.equalIn (d+1) t (.pointer p) (.pointer q)).run P w = .ok r w:=by
      intro d
      cases p with
      | none =>
       cases hpn
       simp only [Op.equalIn,Sem.run_bind,run_underlying hu,Result.andThen_ok,Sem.run_pure]
       rw [hqn]
       cases b<;>cases hr<;>rfl
      | some p =>
       cases hpn
       cases q with
       | none =>
        cases hqn
        cases hr
        simp only [Op.equalIn,Sem.run_bind,run_underlying hu,Result.andThen_ok,Sem.run_pure]
        rfl
       | some q=>cases hqn;cases hr
     exact gen 9999
theorem eqNilM_sound {t:TypeId} {x y:SV} {r:Bool} (hr:eqNilM P t x y=some r):(Op.equal t (den ρ x) (den ρ y)).run P w = .ok r w∧∃ a b,den ρ x = .map a∧den ρ y = .map b:=by
 unfold eqNilM at hr
 cases hx:nilM x with
 | none=>rw [hx] at hr;cases hr
 | some a =>
  rw [hx] at hr
  cases hy:nilM y with
  | none=>rw [hy] at hr;cases hr
  | some b =>
   rw [hy] at hr
   obtain ⟨p,hp,hpn⟩:=nilM_den (ρ:=ρ) hx
   obtain ⟨q,hq,hqn⟩:=nilM_den (ρ:=ρ) hy
   refine ⟨?_,p,q,hp,hq⟩
   rw [hp,hq]
   cases hu:P.underlying t with
   | none=>rw [hu] at hr;cases a<;>cases b<;>cases hr
   | some d =>
    rw [hu] at hr
    cases d<;>try (cases a<;>cases b<;>cases hr;done)
    case map k e =>
     have gen:∀ d,(Op.equalIn (d+1) t (.map p) (.map q)).run P w = .ok r w:=by
      intro d
      cases p with
      | none =>
       cases hpn
       simp only [Op.equalIn,Sem.run_bind,run_underlying hu,Result.andThen_ok,Sem.run_pure]
       rw [hqn]
       cases b<;>cases hr<;>rfl
      | some p =>
       cases hpn
       cases q with
       | none =>
        cases hqn
        cases hr
        simp only [Op.equalIn,Sem.run_bind,run_underlying hu,Result.andThen_ok,Sem.run_pure]
        rfl
       | some q=>cases hqn;cases hr
     exact gen 9999
theorem bin_sound {op:BinOp} {t t':TypeId} {x y:Operand} (ho:o.op = .binOp op t x y t') (c:Cx B ρ h a w ev lo) (hr:(eff P C o ev lo).run h=some (out,ids)):Goal P B ρ h a w lo o out:=by
 unfold eff at hr
 rw [ho] at hr
 obtain ⟨s,hs,hr⟩:=w1_run hr
 obtain ⟨s',hs',hr⟩:=w1_run hr
 have e:=(c.ev _ _ hs).1
 have e':=(c.ev _ _ hs').1
 unfold binS at hr
 cases hz:eqNil P t s s' with
 | some r =>
  rw [hz] at hr
  obtain ⟨h1,pa,pb,hpa,hpb⟩:=eqNil_sound (ρ:=ρ) (w:=w) hz
  cases op<;>try (cases hr;done)
  · cases hr
    refine goal_pure c ?_
    have h2:((do eqGuard .eql t x y (den ρ s) (den ρ s');binOp .eql t (den ρ s) (den ρ s'):Sem Value)).run P w = .ok (.bool r) w:=by
     rw [hpa,hpb] at h1 ⊢
     show ((do pure (.bool (← Op.equal t (.pointer pa) (.pointer pb))):Sem Value)).run P w=_
     simp only [Sem.run_bind,h1,Result.andThen_ok,Sem.run_pure]
    unfold execOp
    simp only [ho,e,e']
    rw [Sem.run_bind,h2]
    rfl
  · cases hr
    refine goal_pure c ?_
    have h2:((do eqGuard .neq t x y (den ρ s) (den ρ s');binOp .neq t (den ρ s) (den ρ s'):Sem Value)).run P w = .ok (.bool !r) w:=by
     rw [hpa,hpb] at h1 ⊢
     show ((do pure (.bool (!(← Op.equal t (.pointer pa) (.pointer pb)))):Sem Value)).run P w=_
     simp only [Sem.run_bind,h1,Result.andThen_ok,Sem.run_pure]
    unfold execOp
    simp only [ho,e,e']
    rw [Sem.run_bind,h2]
    rfl
 | none =>
 rw [hz] at hr
 simp only at hr
 cases hzm:eqNilM P t s s' with
 | some r =>
  rw [hzm] at hr
  obtain ⟨h1,pa,pb,hpa,hpb⟩:=eqNilM_sound (ρ:=ρ) (w:=w) hzm
  cases op<;>try (cases hr;done)
  · cases hr
    refine goal_pure c ?_
    have h2:((do eqGuard .eql t x y (den ρ s) (den ρ s');binOp .eql t (den ρ s) (den ρ s'):Sem Value)).run P w = .ok (.bool r) w:=by
     rw [hpa,hpb] at h1 ⊢
     show ((do pure (.bool (← Op.equal t (.map pa) (.map pb))):Sem Value)).run P w=_
     simp only [Sem.run_bind,h1,Result.andThen_ok,Sem.run_pure]
    unfold execOp
    simp only [ho,e,e']
    rw [Sem.run_bind,h2]
    rfl
  · cases hr
    refine goal_pure c ?_
    have h2:((do eqGuard .neq t x y (den ρ s) (den ρ s');binOp .neq t (den ρ s) (den ρ s'):Sem Value)).run P w = .ok (.bool !r) w:=by
     rw [hpa,hpb] at h1 ⊢
     show ((do pure (.bool (!(← Op.equal t (.map pa) (.map pb)))):Sem Value)).run P w=_
     simp only [Sem.run_bind,h1,Result.andThen_ok,Sem.run_pure]
    unfold execOp
    simp only [ho,e,e']
    rw [Sem.run_bind,h2]
    rfl
 | none =>
 rw [hzm] at hr
 simp only at hr
 cases hx:aggL s with
 | some xs =>
  rw [hx] at hr
  obtain ⟨h1,h2⟩:=eqS_sound (ρ:=ρ) (w:=w) hr x y
  obtain ⟨v,u⟩:=out
  simp only at h1
  subst h1
  refine goal_pure c ?_
  unfold execOp
  simp only [ho,e,e']
  rw [Sem.run_bind,h2]
  rfl
 | none =>
 rw [hx] at hr
 simp only at hr
 cases s with
 | v u =>
  cases s' with
  | v u' =>
   obtain ⟨r,l,l',h1,h2⟩:=bind_run hr
   have:=ret_run (h:=h) h2
   subst this
   refine goal_pure c ?_
   have h3:=bin1_sound h1 x y w
   unfold execOp
   simp only [den] at e e'
   simp only [ho,e,e',den]
   rw [Sem.run_bind,h3]
   rfl
  | _=>cases hr
 | _=>cases hr
theorem perm_pre {α β:Type} {f:α→β} {a b:List β} (h:a.Perm b):∀ l:List α,b=l.map f→∃ l':List α,l'.Perm l∧a=l'.map f:=by
 induction h with
 | nil=>intro l hl;exact ⟨l,List.Perm.refl _,hl⟩
 | cons x h ih =>
  intro l hl
  cases l with
  | nil=>cases hl
  | cons y l =>
   obtain ⟨e1,e2⟩:=List.cons.inj hl
   obtain ⟨l',h1,h2⟩:=ih l e2
   exact ⟨y :: l',h1.cons y,by rw [h2,e1];rfl⟩
 | swap x y l0 =>
  intro l hl
  match l,hl with
  | a :: b :: l,hl =>
   obtain ⟨e1,e2⟩:=List.cons.inj hl
   obtain ⟨e3,e4⟩:=List.cons.inj e2
   exact ⟨b :: a :: l,List.Perm.swap a b l,by rw [e1,e3,e4];rfl⟩
 | trans h1 h2 ih1 ih2 =>
  intro l hl
  obtain ⟨l1,p1,q1⟩:=ih2 l hl
  obtain ⟨l2,p2,q2⟩:=ih1 l1 q1
  exact ⟨l2,p2.trans p1,q2⟩
theorem eqK_run {kt:TypeId} {ks:List Sc} {x y:TT ks} {r:Bool} (h:eqK P kt ks x y=some r):(Op.equal kt (.agg (enc ks x).toArray) (.agg (enc ks y).toArray)).run P w = .ok r w:=by
 unfold eqK at h
 split at h
 · rename_i r' ids hr
   cases h
   have:=eqT_sound (ρ:=fun _=>⟨0,0,0,0,true,none⟩) (w:=w) hr Op.maxDepth (by decide)
   simp only [den,map_v] at this
   exact this
 · cases h
theorem findAsking_run {kt:TypeId} {ks vs:List Sc} {k:TT ks} : ∀ (es:List MapEntry) (L:List (TT ks × TT vs)) (i:Nat),es.map (fun e=>(e.key,e.val))=L.map (ent ks vs)→(∀ p∈L,(eqK P kt ks k p.1).isSome=true)→
 ∃ r,(Instr.findAsking kt (.agg (enc ks k).toArray) es i).run P w = .ok r w∧r.map (fun q=>q.2)=(L.filter fun p=>eqKb P kt ks k p.1).head?.map fun p=>encV vs p.2
 | [],L,i,h,_=>by
  cases L with
  | nil=>exact ⟨none,rfl,rfl⟩
  | cons p L=>cases h
 | e :: es,L,i,h,hs=>by
  cases L with
  | nil=>cases h
  | cons p L =>
   obtain ⟨h1,h2⟩:=List.cons.inj h
   have hp:=hs p List.mem_cons_self
   obtain ⟨b,hb⟩:=Option.isSome_iff_exists.1 hp
   have hk:e.key = .agg (enc ks p.1).toArray:=congrArg Prod.fst h1
   have hv:e.val=encV vs p.2:=congrArg Prod.snd h1
   have he:eqKb P kt ks k p.1=b:=by unfold eqKb;rw [hb]
   obtain ⟨r,hr,hq⟩:=findAsking_run es L (i+1) h2 (fun q hq=>hs q (List.mem_cons_of_mem _ hq))
   cases b with
   | true =>
    refine ⟨some (i,e.val),?_,?_⟩
    · simp only [Instr.findAsking,Sem.run_bind,hk,eqK_run hb,Result.andThen_ok,Sem.run_ite,if_true,Sem.run_pure]
    · simp [List.filter_cons,he,hv]
   | false =>
    refine ⟨r,?_,?_⟩
    · simp only [Instr.findAsking,Sem.run_bind,hk,eqK_run hb,Result.andThen_ok,Sem.run_ite,Bool.false_eq_true,if_false];exact hr
    · simp only [List.filter_cons,he,Bool.false_eq_true,if_false];exact hq
theorem findKey_run {kt:TypeId} {ks vs:List Sc} {k:TT ks} {l:List (TT ks × TT vs)} {es:Array MapEntry} (hu:∃ fs,P.underlying kt=some (.struct fs)) (hp:(es.toList.map fun e=>(e.key,e.val)).Perm (l.map (ent ks vs))) (hm:mOk P kt ks vs k l=true) :
 ∃ r,(Instr.findKey kt (.agg (enc ks k).toArray) es.toList).run P w = .ok r w∧r.map (fun q=>q.2)=(mFind P kt ks vs k l).map fun v=>encV vs v:=by
 obtain ⟨fs,hu⟩:=hu
 obtain ⟨L,hL,hes⟩:=perm_pre hp l rfl
 unfold mOk at hm
 rw [Bool.and_eq_true] at hm
 have hall:∀ p∈L,(eqK P kt ks k p.1).isSome=true:=fun p hq=>List.all_eq_true.1 hm.1 p (hL.mem_iff.1 hq)
 obtain ⟨r,hr,hq⟩:=findAsking_run (P:=P) (w:=w) es.toList L 0 hes hall
 have hf:(L.filter fun p=>eqKb P kt ks k p.1)=mHit P kt ks vs k l:=by
  have h1:(L.filter fun p=>eqKb P kt ks k p.1).Perm (mHit P kt ks vs k l):=hL.filter _
  have h2:=Nat.le_of_ble_eq_true hm.2
  generalize (L.filter fun p=>eqKb P kt ks k p.1)=A at h1
  generalize mHit P kt ks vs k l=B at h1 h2
  match B,h2 with
  | [],_=>exact List.perm_nil.1 h1
  | [b],_=>exact List.perm_singleton.1 h1
 have hfound:r.map (fun q=>q.2)=(mFind P kt ks vs k l).map fun v=>encV vs v:=by
  rw [hq,hf]
  unfold mFind
  cases (mHit P kt ks vs k l).head?<;>rfl
 refine ⟨r,?_,hfound⟩
 unfold Instr.findKey
 simp only [Sem.run_bind,run_underlying hu,Result.andThen_ok]
 cases hes2:es.toList with
 | nil =>
  rw [hes2] at hr
  have:r=none:=by
   have h3:(Instr.findAsking kt (.agg (enc ks k).toArray) []).run P w = .ok none w:=rfl
   rw [h3] at hr
   cases hr;rfl
  subst this
  rfl
 | cons e rest =>
  rw [hes2] at hr
  have:Instr.findNow (.struct fs) (.agg (enc ks k).toArray) (e :: rest) 0=none:=by
   simp only [Instr.findNow,Instr.sameNow]
  rw [this]
  exact hr
theorem isSt_of {t:TypeId} (h:isSt P t=true):∃ fs,P.underlying t=some (.struct fs):=by
 unfold isSt at h
 split at h
 · rename_i fs hu;exact ⟨fs,hu⟩
 · cases h
theorem optA_run {γ α:Type} {x:Option γ} {k:γ→Rd α} {r:α} (hr:(Rd.opt x k).run h=some (r,ids)):∃ y,x=some y∧(k y).run h=some (r,ids):=by
 cases x with
 | none=>cases hr
 | some y=>exact ⟨y,rfl,hr⟩
theorem den_svV {ρ:Rho} : ∀ {vs:List Sc} {x:TT vs},den ρ (svV vs x)=encV vs x:=by
 intro vs x
 unfold svV encV
 split<;>simp [den,map_v]
theorem decV_den {ρ:Rho} {vs:List Sc} {s:SV} {u:TT vs} (h:decV vs s=some u):den ρ s=encV vs u:=by
 unfold decV at h
 split at h
 · split at h
   · cases h;rfl
   · cases h
 · rename_i hne
   split at h
   · cases h
   · rename_i vc hvc
     rw [aggL_den hvc,dec_enc ρ _ _ _ h]
     unfold encV
     split
     · exact absurd rfl hne
     · rfl
theorem zerV_run {ρ:Rho} {et:TypeId} {vs:List Sc} {z:TT vs} (h:zerV P et vs=some z):(zeroValue et).run P w = .ok (encV vs z) w:=by
 unfold zerV at h
 split at h
 · split at h
   · rename_i i hi
     split at h
     · rename_i hv
       cases h
       simp only [zeroValue,typeInfo,Sem.run_bind,run_program,Result.andThen_ok,hi,hv,Sem.run_pure]
       rfl
     · cases h
   · cases h
 · rename_i hne
   split at h
   · cases h
   · rename_i zc hzc
     have hz':=dec_enc ρ _ _ _ h
     have he:encV vs z = .agg (enc vs z).toArray:=by
      unfold encV
      split
      · exact absurd rfl hne
      · rfl
     rw [he]
     unfold zeroC at hzc
     split at hzc
     · rename_i i hi
       split at hzc
       · rename_i v hv
         split at hzc
         · rename_i cz
           cases hzc
           rw [map_v] at hz'
           simp only [zeroValue,typeInfo,Sem.run_bind,run_program,Result.andThen_ok,hi,hv,Sem.run_pure]
           rw [← hz']
         · cases hzc
       · cases hzc
     · cases hzc
theorem lookup_sound {t:TypeId} {x y:Operand} {ok:Bool} (ho:o.op = .lookup t x y ok) (c:Cx B ρ h a w ev lo) (hr:(eff P C o ev lo).run h=some (out,ids)):Goal P B ρ h a w lo o out:=by
 unfold eff at hr
 rw [ho] at hr
 obtain ⟨s,hs,hr⟩:=w1_run hr
 obtain ⟨s',hs',hr⟩:=w1_run hr
 have e:=(c.ev _ _ hs).1
 have e':=(c.ev _ _ hs').1
 unfold lookupS at hr
 split at hr
 · rename_i kt et hu
   cases s with
   | map id =>
    obtain ⟨hck,hr⟩:=cond_run hr
    rw [Bool.and_eq_true] at hck
    obtain ⟨ob,ids',hl,hr⟩:=obj_run hr
    split at hr
    · rename_i ks vs l
      split at hr
      · cases hr
      · rename_i cs hcs
        obtain ⟨k,hk,hr⟩:=optA_run hr
        obtain ⟨z,hz,hr⟩:=optA_run hr
        · obtain ⟨hm,hr⟩:=br_run (h:=h) hr
          have:=ret_run (h:=h) hr
          subst this
          refine goal_pure c ?_
          obtain ⟨k1,k2,es,clock,k4,k5⟩:=c.hr.ok _ _ hl
          obtain ⟨r,hr1,hr2⟩:=findKey_run (w:=w) (isSt_of hck.1) k5.1 hm
          have hkey:den ρ s' = .agg (enc ks k).toArray:=by rw [aggL_den hcs,dec_enc ρ _ _ _ hk]
          have hg:(getObj (ρ id).blk).run P w = .ok (.map es clock) w:=by simp [getObj,Sem.run,k4]
          have hck':=ckT_sound (ρ:=ρ) (w:=w) (b:=es.isEmpty) hck.2 10000 (by decide)
          rw [hkey] at hck' e'
          have hzero:=zerV_run (w:=w) (ρ:=ρ) hz
          unfold execOp
          simp only [ho,e,e',den,Instr.lookup,Sem.run_bind,run_underlying hu,Result.andThen_ok,hg,Sem.run_pure,hck',hr1]
          cases r with
          | none =>
           cases hf:mFind P kt ks vs k l with
           | none =>
            simp only [Sem.run_bind,hzero,Result.andThen_ok,Sem.run_pure]
            cases ok<;>simp [den,denL,den_svV]
           | some v=>rw [hf] at hr2;cases hr2
          | some q =>
           cases hf:mFind P kt ks vs k l with
           | none=>rw [hf] at hr2;cases hr2
           | some v =>
            rw [hf] at hr2
            have hq:q.2=encV vs v:=Option.some.inj hr2
            obtain ⟨q1,q2⟩:=q
            simp only at hq
            subst hq
            simp only [Sem.run_pure,Result.andThen_ok]
            cases ok<;>simp [den,denL,den_svV]
    · cases hr
   | _=>cases hr
 · cases hr
theorem mapUpdate_sound {t:TypeId} {x y z:Operand} (ho:o.op = .mapUpdate t x y z) (c:Cx B ρ h a w ev lo) (hr:(eff P C o ev lo).run h=some (out,ids)):Goal P B ρ h a w lo o out:=by
 unfold eff at hr
 rw [ho] at hr
 obtain ⟨s,hs,hr⟩:=w1_run hr
 obtain ⟨s',hs',hr⟩:=w1_run hr
 obtain ⟨s2,hs2,hr⟩:=w1_run hr
 have e:=(c.ev _ _ hs).1
 have e':=(c.ev _ _ hs').1
 have e2:=(c.ev _ _ hs2).1
 unfold mapUpS at hr
 split at hr
 · rename_i kt et hu
   cases s with
   | map id =>
    obtain ⟨hck,hr⟩:=cond_run hr
    rw [Bool.and_eq_true] at hck
    obtain ⟨ob,ids',hl,hr⟩:=obj_run hr
    split at hr
    · rename_i ks vs l
      split at hr
      · cases hr
      · rename_i cs hcs
        obtain ⟨k,hk,hr⟩:=optA_run hr
        obtain ⟨u,hu2,hr⟩:=optA_run hr
        · obtain ⟨hm,hr⟩:=br_run (h:=h) hr
          rw [Bool.and_eq_true] at hm
          have:=ret_run (h:=h) hr
          subst this
          obtain ⟨k1,k2,es,clock,k4,k5⟩:=c.hr.ok _ _ hl
          obtain ⟨r,hr1,hr2⟩:=findKey_run (w:=w) (isSt_of hck.1) k5.1 hm.1
          have hnone:r=none:=by
           have:mFind P kt ks vs k l=none:=by simpa using hm.2
           rw [this] at hr2
           cases r with
           | none=>rfl
           | some q=>cases hr2
          subst hnone
          have hkey:den ρ s' = .agg (enc ks k).toArray:=by rw [aggL_den hcs,dec_enc ρ _ _ _ hk]
          have hval:den ρ s2=encV vs u:=decV_den hu2
          have hg:(getObj (ρ id).blk).run P w = .ok (.map es clock) w:=by simp [getObj,Sem.run,k4]
          have hck':=ckT_sound (ρ:=ρ) (w:=w) (b:=false) hck.2 10000 (by decide)
          rw [hkey] at hck' e'
          rw [hval] at e2
          have hlt:(ρ id).blk<w.heap.size:=(Array.getElem?_eq_some_iff.1 k4).1
          obtain ⟨w',hw'⟩:∃ w',w' = { w with heap:=w.heap.setIfInBounds (ρ id).blk (.map (es.push { key:=.agg (enc ks k).toArray,val:=encV vs u,born:=clock }) (clock+1)) }:=⟨_,rfl⟩
          have hset:(setObj (ρ id).blk (.map (es.push { key:=.agg (enc ks k).toArray,val:=encV vs u,born:=clock }) (clock+1))).run P w = .ok () w':=by rw [hw'];simp [setObj,Sem.run,k4]
          refine Gives.skip (w':=w') ?_ ⟨ρ,?_⟩
          · unfold execOp
            simp only [ho,e,e',e2,den,Instr.mapUpdate,Sem.run_bind,run_underlying hu,Result.andThen_ok,hg,hck',hr1,hset,Sem.run_pure]
          · have hlo:=(c.hf _ _ hl).1
            refine made_set (s:=.v undef) (o':=.mapo ks vs (l ++ [(k,u)])) c.hr hlo hl rfl rfl k1 (by rw [hw']) (by rw [hw']) (by rw [hw']) (by rw [hw'];simp) (fun b hb=>by rw [hw'];simp [Array.getElem?_setIfInBounds,Ne.symm hb]) ⟨k1,k2,es.push { key:=.agg (enc ks k).toArray,val:=encV vs u,born:=clock },clock+1,by rw [hw'];simp [Array.getElem?_setIfInBounds,hlt],?_⟩
            rw [Array.toList_push,List.map_append,List.map_append]
            refine ⟨k5.1.append (List.Perm.refl _),fun x hx=>?_,?_⟩
            · rcases List.mem_append.1 hx with hx|hx
              · have:=k5.2.1 x hx;omega
              · simp only [List.mem_singleton] at hx;subst hx;exact Nat.lt_succ_self _
            · rw [List.map_append,List.nodup_append]
              refine ⟨k5.2.2,by simp,fun x hx y hy=>?_⟩
              simp only [List.map_cons,List.map_nil,List.mem_singleton] at hy
              subst hy
              obtain ⟨e,he,rfl⟩:=List.mem_map.1 hx
              exact Nat.ne_of_lt (k5.2.1 e he)
    · cases hr
   | _=>cases hr
 · cases hr
theorem un_sound {op:UnOp} {t:TypeId} {x:Operand} (ho:o.op = .unOp op t x) (c:Cx B ρ h a w ev lo) (hr:(eff P C o ev lo).run h=some (out,ids)):Goal P B ρ h a w lo o out:=by
 unfold eff at hr
 rw [ho] at hr
 obtain ⟨s,hs,hr⟩:=w1_run hr
 have e:=(c.ev _ _ hs).1
 unfold unS at hr
 split at hr
 · split at hr
   · have:=ret_run (h:=h) hr;subst this
     refine goal_pure c ?_
     unfold execOp;simp only [ho,e,den,Op.unary,Op.intArith,Sem.run_bind,Sem.run_pure,Result.andThen_ok]
   · cases hr
 · split at hr
   · have:=ret_run (h:=h) hr;subst this
     refine goal_pure c ?_
     unfold execOp;simp only [ho,e,den,Op.unary,Sem.run_bind,Sem.run_pure,Result.andThen_ok]
   · cases hr
 · cases hr
theorem conv_sound {t t':TypeId} {x:Operand} (ho:o.op = .convert t t' x) (c:Cx B ρ h a w ev lo) (hr:(eff P C o ev lo).run h=some (out,ids)):Goal P B ρ h a w lo o out:=by
 unfold eff at hr
 rw [ho] at hr
 obtain ⟨s,hs,hr⟩:=w1_run hr
 have e:=(c.ev _ _ hs).1
 unfold convS at hr
 cases hu:P.underlying t with
 | none=>rw [hu] at hr;cases hr
 | some d =>
  rw [hu] at hr
  cases hu':P.underlying t' with
  | none=>rw [hu'] at hr;cases hr
  | some d' =>
   rw [hu'] at hr
   cases d'<;>try (cases hr;done)
   case int k =>
    simp only at hr
    split at hr
    · have:=ret_run (h:=h) hr;subst this
      refine goal_pure c ?_
      unfold execOp;simp only [ho,e,den,convert,run_underlying hu,run_underlying hu',Conv.intToInt,Sem.run_bind,Sem.run_pure,Result.andThen_ok]
    · cases hr
   case string =>
    simp only at hr
    split at hr
    · have:=ret_run (h:=h) hr;subst this
      refine goal_pure c ?_
      unfold execOp;simp only [ho,e,den,convert,run_underlying hu,run_underlying hu',Sem.run_bind,Sem.run_pure,Result.andThen_ok]
    · cases hr
theorem func_sound {fn:Fn} {fi ca:Array Operand} (ho:o.op = .makeFunc fn fi ca) (c:Cx B ρ h a w ev lo) (hr:(eff P C o ev lo).run h=some (out,ids)):Goal P B ρ h a w lo o out:=by
 unfold eff at hr
 rw [ho] at hr
 simp only at hr
 cases h1:evL ev fi.toList with
 | none=>rw [h1] at hr;cases hr
 | some l1 =>
  rw [h1] at hr
  cases h2:evL ev ca.toList with
  | none=>rw [h2] at hr;cases hr
  | some l2 =>
   rw [h2] at hr
   have:=ret_run (h:=h) hr;subst this
   have e1:=(evL_den c h1).1
   have e2:=(evL_den c h2).1
   have a1:fi.map a.eval=(denL ρ l1).toArray:=by apply Array.ext';simpa using e1
   have a2:ca.map a.eval=(denL ρ l2).toArray:=by apply Array.ext';simpa using e2
   refine goal_pure c ?_
   unfold execOp
   simp only [ho,Instr.makeFunc,a1,a2,Sem.run_bind,Sem.run_pure,Result.andThen_ok,den]
theorem fieldAddr_sound {t:TypeId} {x:Operand} {f:Nat} (ho:o.op = .fieldAddr t x f) (c:Cx B ρ h a w ev lo) (hr:(eff P C o ev lo).run h=some (out,ids)):Goal P B ρ h a w lo o out:=by
 unfold eff at hr
 rw [ho] at hr
 obtain ⟨s,hs,hr⟩:=w1_run hr
 have e:=(c.ev _ _ hs).1
 unfold fieldAddrS at hr
 split at hr
 · rename_i fields hu
   split at hr
   · cases hr
   · rename_i fld hf
     split at hr
     · cases hr
     · rename_i z hz
       split at hr
       · cases hr
       · rename_i hz0
         have hz0:¬ z=0:=fun e'=>by subst e';cases hz0
         have key:∀ (ad:Addr),ad.spot=none→den ρ s = .pointer (some ad)→(execOp a.eval o).run P w = .ok (.value (.pointer (some ⟨ad.block,ad.off+fld.offset,none⟩))) w:=by
          intro ad hsp hd
          have hadd:ad.add fld.offset=⟨ad.block,ad.off+fld.offset,none⟩:=by
           unfold Addr.add
           split
           · rename_i e0;cases ad;simp at hsp;subst hsp;simp [e0]
           · rfl
          unfold execOp
          simp only [ho,e,hd,Instr.fieldAt,Instr.sureAddr,fieldPlace,run_underlying hu,hf,run_sizeOf' hz,Sem.run_bind,Sem.run_pure,Result.andThen_ok,hz0,if_false,hadd]
         split at hr
         · have:=ret_run (h:=h) hr;subst this
           refine goal_pure c ?_
           rw [key ⟨_,_,none⟩ rfl rfl]
           simp only [den,Nat.add_assoc]
         · have:=ret_run (h:=h) hr;subst this
           refine goal_pure c ?_
           rw [key ⟨_,_,none⟩ rfl rfl]
           simp only [den,Nat.add_assoc]
         · cases hr
 · cases hr
theorem field_sound {t:TypeId} {x:Operand} {f:Nat} (ho:o.op = .field t x f) (c:Cx B ρ h a w ev lo) (hr:(eff P C o ev lo).run h=some (out,ids)):Goal P B ρ h a w lo o out:=by
 unfold eff at hr
 rw [ho] at hr
 obtain ⟨s,hs,hr⟩:=w1_run hr
 have e:=(c.ev _ _ hs).1
 unfold fieldS at hr
 split at hr
 · rename_i fields hu
   split at hr
   · cases hr
   · rename_i fld hf
     split at hr
     · obtain ⟨g,z,s',h1,h2,h3,rfl⟩:=loadS_den hr
       refine goal_pure c ?_
       unfold execOp
       simp only [ho,e,den,Instr.field,asAgg,run_underlying hu,hf,Sem.run_bind,Sem.run_pure,Result.andThen_ok,run_part_at h1 h2 h3]
     · cases hr
 · cases hr
theorem den_slc {id:Nat} (k1:(ρ id).nil=false) (n off len:Nat) (cap:Option Nat):∃ cp,den ρ (.slc id n off len cap) = .slice (some ⟨(ρ id).blk,(ρ id).off+off * n,none⟩) len cp:=by
 simp only [den,k1,Bool.false_eq_true,if_false]
 exact ⟨_,rfl⟩
theorem indexAddr_sound {t:TypeId} {x y:Operand} (ho:o.op = .indexAddr t x y) (c:Cx B ρ h a w ev lo) (hr:(eff P C o ev lo).run h=some (out,ids)):Goal P B ρ h a w lo o out:=by
 unfold eff at hr
 rw [ho] at hr
 obtain ⟨s,hs,hr⟩:=w1_run hr
 obtain ⟨s',hs',hr⟩:=w1_run hr
 have e:=(c.ev _ _ hs).1
 have e':=(c.ev _ _ hs').1
 unfold indexAddrS at hr
 split at hr
 · rename_i k i
   simp only [den] at e'
   split at hr
   · rename_i el hu
     have hel:P.elem t=el:=by simp [Program.elem,hu]
     split at hr
     · cases hr
     · rename_i z hz
       have key:∀ (b off len cap:Nat),den ρ s = .slice (some ⟨b,off,none⟩) len cap→0≤i→i<(len:Int)→(execOp a.eval o).run P w = .ok (.value (.pointer (some ⟨b,off+i.toNat * z,none⟩))) w:=by
        intro b off len cap hd h0 h1
        have hadd:(⟨b,off,none⟩:Addr).add (i.toNat * z)=⟨b,off+i.toNat * z,none⟩:=Addr.add_lit b off _
        unfold execOp
        simp only [ho,e,e',hd,Sem.run_bind,run_indexAt_slice w t _ len cap k i (by rw [hu,hel]),h0,h1,and_self,if_true,hel,run_sizeOf' hz,Result.andThen_ok,Sem.run_pure,hadd]
       cases s with
       | slc id n off len cap =>
        obtain ⟨hn,hr⟩:=cond_run hr
        have hn:=Nat.eq_of_beq_eq_true hn
        obtain ⟨ob,ids',hl,hr⟩:=obj_run hr
        cases ob with
        | cells ty cs =>
         obtain ⟨g0,hr⟩:=br_run hr
         obtain ⟨g1,hr⟩:=br_run hr
         have:=ret_run (h:=h) hr;subst this
         obtain ⟨k1,k2,k3⟩:=c.hr.ok _ _ hl
         refine goal_pure c ?_
         obtain ⟨cp,hd⟩:∃ cp,den ρ (.slc id n off len cap) = .slice (some ⟨(ρ id).blk,(ρ id).off+off * n,none⟩) len cp:=den_slc k1 n off len cap
         rw [key _ _ _ _ hd (of_decide_eq_true g0) (of_decide_eq_true g1),hn]
         simp only [den,Nat.add_zero,Nat.add_mul,Nat.add_assoc]
        | ro ty cs =>
         obtain ⟨g0,hr⟩:=br_run hr
         obtain ⟨g1,hr⟩:=br_run hr
         have:=ret_run (h:=h) hr;subst this
         obtain ⟨k1,k2,k3⟩:=c.hr.ok _ _ hl
         refine goal_pure c ?_
         obtain ⟨cp,hd⟩:∃ cp,den ρ (.slc id n off len cap) = .slice (some ⟨(ρ id).blk,(ρ id).off+off * n,none⟩) len cp:=den_slc k1 n off len cap
         rw [key _ _ _ _ hd (of_decide_eq_true g0) (of_decide_eq_true g1),hn]
         simp only [den,Nat.add_zero,Nat.add_mul,Nat.add_assoc]
        | row ty sc l =>
         obtain ⟨g0,hr⟩:=br_run hr
         obtain ⟨g1,hr⟩:=br_run hr
         obtain ⟨g2,hr⟩:=br_run hr
         have:=ret_run (h:=h) hr;subst this
         have g2:off+i.toNat<l.length:=of_decide_eq_true g2
         obtain ⟨k0,k1⟩:=c.hr.ok _ _ hl
         rcases k1 with ⟨_,k1,_⟩|⟨k1,_⟩
         · subst k1;simp at g2
         · refine goal_pure c ?_
           obtain ⟨cp,hd⟩:∃ cp,den ρ (.slc id n off len cap) = .slice (some ⟨(ρ id).blk,(ρ id).off+off * n,none⟩) len cp:=den_slc k1 n off len cap
           rw [key _ _ _ _ hd (of_decide_eq_true g0) (of_decide_eq_true g1),hn]
           simp only [den,Nat.add_zero,Nat.add_mul,Nat.add_assoc]
        | arg sc l =>
         obtain ⟨g0,hr⟩:=br_run hr
         obtain ⟨g1,hr⟩:=br_run hr
         obtain ⟨g2,hr⟩:=br_run hr
         have:=ret_run (h:=h) hr;subst this
         have g2:off+i.toNat<l.length:=of_decide_eq_true g2
         obtain ⟨k0,k1⟩:=c.hr.ok _ _ hl
         rcases k1 with ⟨_,k1⟩|⟨k1,_⟩
         · subst k1;simp at g2
         · refine goal_pure c ?_
           obtain ⟨cp,hd⟩:∃ cp,den ρ (.slc id n off len cap) = .slice (some ⟨(ρ id).blk,(ρ id).off+off * n,none⟩) len cp:=den_slc k1 n off len cap
           rw [key _ _ _ _ hd (of_decide_eq_true g0) (of_decide_eq_true g1),hn]
           simp only [den,Nat.add_zero,Nat.add_mul,Nat.add_assoc]
        | _=>cases hr
       | all id =>
        obtain ⟨ob,ids',hl,hr⟩:=obj_run hr
        cases ob with
        | row ty sc l =>
         obtain ⟨hn,hr⟩:=cond_run hr
         obtain ⟨g0,hr⟩:=br_run hr
         obtain ⟨g1,hr⟩:=br_run hr
         have:=ret_run (h:=h) hr;subst this
         have g0:=of_decide_eq_true g0
         have g1:i<(l.length:Int):=of_decide_eq_true g1
         obtain ⟨k0,k1⟩:=c.hr.ok _ _ hl
         rcases k1 with ⟨_,k1,_⟩|⟨k1,k2,_⟩
         · subst k1;simp at g1;omega
         · refine goal_pure c ?_
           have hd:den ρ (.all id) = .slice (some ⟨(ρ id).blk,(ρ id).off,none⟩) (ρ id).len (ρ id).cap:=by simp only [den,k1,Bool.false_eq_true,if_false]
           rw [key _ _ _ _ hd g0 (by rw [k0];exact g1)]
           simp only [den,Nat.add_zero]
        | arg sc l =>
         obtain ⟨hn,hr⟩:=cond_run hr
         obtain ⟨g0,hr⟩:=br_run hr
         obtain ⟨g1,hr⟩:=br_run hr
         have:=ret_run (h:=h) hr;subst this
         have g0:=of_decide_eq_true g0
         have g1:i<(l.length:Int):=of_decide_eq_true g1
         obtain ⟨k0,k1⟩:=c.hr.ok _ _ hl
         rcases k1 with ⟨_,k1⟩|⟨hnil,k1,k3,k4⟩
         · subst k1;simp at g1;omega
         refine goal_pure c ?_
         have hd:den ρ (.all id) = .slice (some ⟨(ρ id).blk,(ρ id).off,none⟩) (ρ id).len (ρ id).cap:=by simp only [den,hnil,Bool.false_eq_true,if_false]
         rw [key _ _ _ _ hd g0 (by rw [k0];exact g1)]
         simp only [den,Nat.add_zero]
        | _=>cases hr
       | _=>cases hr
   · rename_i m el hu
     have hel:P.elem t=el:=by simp [Program.elem,hu]
     have hml:P.arrayLen t=m:=by simp [Program.arrayLen,hu]
     split at hr
     · cases hr
     · rename_i z hz
       cases s with
       | ptr id off =>
        obtain ⟨g0,hr⟩:=br_run hr
        obtain ⟨g1,hr⟩:=br_run hr
        have:=ret_run (h:=h) hr;subst this
        have g0:=of_decide_eq_true g0
        have g1:=of_decide_eq_true g1
        refine goal_pure c ?_
        have hadd:(⟨(ρ id).blk,(ρ id).off+off,none⟩:Addr).add (i.toNat * z)=⟨(ρ id).blk,(ρ id).off+off+i.toNat * z,none⟩:=Addr.add_lit _ _ _
        unfold execOp
        simp only [ho,e,e',den,Sem.run_bind,run_indexAt_array w t _ k i (by rw [hu,hel,hml]),hml,g0,g1,and_self,if_true,hel,run_sizeOf' hz,Result.andThen_ok,Sem.run_pure,hadd,Nat.add_assoc]
       | _=>cases hr
   · cases hr
 · cases hr
theorem index_sound {t:TypeId} {x y:Operand} (ho:o.op = .index t x y) (c:Cx B ρ h a w ev lo) (hr:(eff P C o ev lo).run h=some (out,ids)):Goal P B ρ h a w lo o out:=by
 unfold eff at hr
 rw [ho] at hr
 obtain ⟨s,hs,hr⟩:=w1_run hr
 obtain ⟨s',hs',hr⟩:=w1_run hr
 have e:=(c.ev _ _ hs).1
 have e':=(c.ev _ _ hs').1
 unfold indexS at hr
 split at hr
 · rename_i k i
   simp only [den] at e'
   split at hr
   · rename_i m el hu
     split at hr
     · cases hr
     · rename_i z hz
       split at hr
       · rename_i cs
         obtain ⟨g0,hr⟩:=br_run hr
         obtain ⟨g1,hr⟩:=br_run hr
         have g0:=of_decide_eq_true g0
         have g1:=of_decide_eq_true g1
         obtain ⟨g,z',s',h1,h2,h3,rfl⟩:=loadS_den hr
         refine goal_pure c ?_
         unfold execOp
         simp only [ho,e,e',den,Instr.index,asIntOf,run_underlying hu,Sem.run_bind,Sem.run_pure,Result.andThen_ok,g0,g1,and_self,if_true,run_sizeOf' hz,run_part_at h1 h2 h3]
       · cases hr
   · rename_i hu
     have key:∀ (st:ByteArray),den ρ s = .string st→0≤i→i<(st.size:Int)→(execOp a.eval o).run P w = .ok (.value (.int .u8 (bt st i))) w:=by
      intro st hd g0 g1
      have hlt:i.toNat<st.size:=by omega
      unfold execOp
      simp only [ho,e,e',hd,Instr.index,asIntOf,run_underlying hu,Sem.run_bind,Sem.run_pure,Result.andThen_ok,g0,if_true,bt,getElem?_pos st i.toNat hlt]
     split at hr
     · obtain ⟨g0,hr⟩:=br_run hr
       obtain ⟨g1,hr⟩:=br_run hr
       have:=ret_run (h:=h) hr;subst this
       refine goal_pure c ?_
       rw [key _ rfl (of_decide_eq_true g0) (of_decide_eq_true g1)]
       rfl
     · cases hr
   · cases hr
 · cases hr
theorem extract_sound {x:Operand} {i:Nat} (ho:o.op = .extract x i) (c:Cx B ρ h a w ev lo) (hr:(eff P C o ev lo).run h=some (out,ids)):Goal P B ρ h a w lo o out:=by
 unfold eff at hr
 rw [ho] at hr
 obtain ⟨s,hs,hr⟩:=w1_run hr
 have e:=(c.ev _ _ hs).1
 cases s with
 | tup l =>
  simp only at hr
  cases hi:l[i]? with
  | none=>rw [hi] at hr;cases hr
  | some s' =>
   rw [hi] at hr
   have:=ret_run (h:=h) hr;subst this
   refine goal_pure c ?_
   have hx:(denL ρ l)[i]? = some (den ρ s'):=by rw [denL_getElem?,hi];rfl
   unfold execOp
   simp only [ho,e,den,Instr.extract,List.getElem?_toArray,hx,Sem.run_bind,Sem.run_pure,Result.andThen_ok]
 | _=>cases hr
theorem len_sound {cl:Call} {t:TypeId} {x:Operand} {s:SV} (ho:o.op = .call cl) (hc:cl.callee = .builtin .len) (ht:cl.argTypes = #[t]) (hx:cl.args = #[x]) (hs:ev x=some s) (c:Cx B ρ h a w ev lo)
 (hr:(lenS P t s).run h=some (out,ids)):Goal P B ρ h a w lo o out:=by
 have e:=(c.ev _ _ hs).1
 have key:∀ v,(Builtin.len_ #[t] o.type #[den ρ s]).run P w = .ok v w→(execOp a.eval o).run P w = .ok (.value v) w:=by
  intro v hv
  unfold execOp
  simp only [ho,resolve,hc,ht,hx,List.map_toArray,List.map_cons,List.map_nil,e,Sem.run_bind,Sem.run_pure,Result.andThen_ok,invoke,builtin,hv]
 have out1:∀ {n:Int},out=⟨.v (.int .i64 n),[]⟩→(Builtin.len_ #[t] o.type #[den ρ s]).run P w = .ok (.int .i64 n) w→Goal P B ρ h a w lo o out:=by
  intro n h1 h2
  subst h1
  exact goal_pure c (key _ h2)
 unfold lenS at hr
 split at hr
 · rename_i el hu
   have hel:P.elem t=el:=by simp [Program.elem,hu]
   have lsl:∀ (b:Option Addr) (n cap:Nat),den ρ s = .slice b n cap→(Builtin.len_ #[t] o.type #[den ρ s]).run P w = .ok (.int .i64 n) w:=by
    intro b n cap hd
    rw [hd,run_len_slice w t _ b n cap (by rw [hu,hel])]
    rfl
   split at hr
   · exact out1 (ret_run (h:=h) hr) (lsl _ _ _ rfl)
   · obtain ⟨ob,ids',hl,hr⟩:=obj_run hr
     cases ob with
     | cells ty cs =>
      obtain ⟨k1,k2,k3⟩:=c.hr.ok _ _ hl
      exact out1 (ret_run (h:=h) hr) (lsl _ _ _ (by simp only [den,k1,Bool.false_eq_true,if_false];rfl))
     | ro ty cs =>
      obtain ⟨k1,k2,k3⟩:=c.hr.ok _ _ hl
      exact out1 (ret_run (h:=h) hr) (lsl _ _ _ (by simp only [den,k1,Bool.false_eq_true,if_false];rfl))
     | row ty sc l =>
      obtain ⟨g0,hr⟩:=br_run hr
      have g0:=of_decide_eq_true g0
      obtain ⟨k0,k1⟩:=c.hr.ok _ _ hl
      refine out1 (ret_run (h:=h) hr) ?_
      rcases k1 with ⟨k1,k2,_⟩|⟨k1,_⟩
      · subst k2
        have g0:=Nat.le_zero.1 g0
        subst g0
        exact lsl _ 0 _ (by simp only [den,k1,if_true];rfl)
      · exact lsl _ _ _ (by simp only [den,k1,Bool.false_eq_true,if_false];rfl)
     | arg sc l =>
      obtain ⟨g0,hr⟩:=br_run hr
      have g0:=of_decide_eq_true g0
      obtain ⟨k0,k1⟩:=c.hr.ok _ _ hl
      refine out1 (ret_run (h:=h) hr) ?_
      rcases k1 with ⟨k1,k2⟩|⟨k1,_⟩
      · subst k2
        have g0:=Nat.le_zero.1 g0
        subst g0
        exact lsl _ 0 _ (by simp only [den,k1,if_true];rfl)
      · exact lsl _ _ _ (by simp only [den,k1,Bool.false_eq_true,if_false];rfl)
     | _=>cases hr
   · rename_i id
     obtain ⟨ob,ids',hl,hr⟩:=obj_run hr
     cases ob with
     | row ty sc l =>
      obtain ⟨k0,k1⟩:=c.hr.ok _ _ hl
      refine out1 (ret_run (h:=h) hr) ?_
      rcases k1 with ⟨k1,k2,_⟩|⟨k1,_⟩
      · subst k2;exact lsl (ρ id).emp 0 (ρ id).cap (by simp only [den,k1,if_true])
      · rw [← k0];exact lsl _ _ _ (by simp only [den,k1,Bool.false_eq_true,if_false];rfl)
     | arg sc l =>
      obtain ⟨k0,k1⟩:=c.hr.ok _ _ hl
      refine out1 (ret_run (h:=h) hr) ?_
      rcases k1 with ⟨k1,k2⟩|⟨k1,_⟩
      · subst k2;exact lsl (ρ id).emp 0 (ρ id).cap (by simp only [den,k1,if_true])
      · rw [← k0];exact lsl _ _ _ (by simp only [den,k1,Bool.false_eq_true,if_false];rfl)
     | _=>cases hr
   · cases hr
 · rename_i hu
   split at hr
   · refine out1 (ret_run (h:=h) hr) ?_
     simp only [den,Builtin.len_,List.getElem?_toArray,List.getElem?_cons_zero,run_underlying hu,Sem.run_bind,Result.andThen_ok,Sem.run_pure]
     rfl
   · cases hr
 · rename_i m el hu
   refine out1 (ret_run (h:=h) hr) ?_
   simp only [Builtin.len_,List.getElem?_toArray,List.getElem?_cons_zero,run_underlying hu,Sem.run_bind,Result.andThen_ok]
   rfl
 · rename_i kt et hu
   split at hr
   · rename_i id
     obtain ⟨ob,ids',hl,hr⟩:=obj_run hr
     cases ob with
     | mapo ks vs l =>
      obtain ⟨k1,k2,es,clock,k4,k5⟩:=c.hr.ok _ _ hl
      refine out1 (ret_run (h:=h) hr) ?_
      have hn:es.size=l.length:=by have:=k5.1.length_eq;simpa using this
      have hg:(getObj (ρ id).blk).run P w = .ok (.map es clock) w:=by simp [getObj,Sem.run,k4]
      simp only [den,Builtin.len_,List.getElem?_toArray,List.getElem?_cons_zero,run_underlying hu,Sem.run_bind,Result.andThen_ok,hg,Sem.run_pure,hn]
      rfl
     | _=>cases hr
   · cases hr
 · cases hr
end
def rowVal (L:Loc):Value:=if L.nil then .slice L.emp 0 L.cap else .slice (some ⟨L.blk,L.off,none⟩) L.len L.cap
theorem append_core {P:Program} {w:World} {t ty e:TypeId} {i:TypeInfo} {z:Value} (ht:P.underlying t=some (.slice e)) (hi:P.info? e=some i) (hz:i.zero=some z) (hzs:z.cells.size=i.size) (hsz:0<i.size) (hby:i.bytes≤140000)
 {sc:List Sc} (hsc:sc.length=i.size) {l xs:List (TT sc)} (hlen:l.length+xs.length≤1000000000) (hxs:0<xs.length) {ρ:Rho} {L:Loc} (hok:OK ρ w L (.row e sc l)) (a:Addr) (c:Nat) (hnews:∀ j u,(flat sc xs)[j]? = some u→w.cell? (a.add j)=some u) :
 ∃ L' w',(Builtin.append_ #[t,t] ty #[rowVal L,.slice (some a) xs.length c]).run P w = .ok (rowVal L') w'∧L'.nil=false∧(∀ ρ',OK ρ' w' L' (.row e sc (l ++ xs)))∧w'.os=w.os∧w'.tape=w.tape∧w'.output=w.output∧w.heap.size≤w'.heap.size∧
  ((L.nil=false∧l.length+xs.length≤L.cap∧L'.blk=L.blk∧∀ b,b≠L.blk→w'.heap[b]? = w.heap[b]?)∨(L'.blk=w.heap.size∧∀ b,b<w.heap.size→w'.heap[b]? = w.heap[b]?)):=by
 have hfl:(flat sc xs).length=xs.length * i.size:=by rw [flat_length,hsc]
 have hone:∀ u∈flat sc xs,u.oneCell'=true:=by
  intro u hu
  simp only [flat,List.mem_flatten,List.mem_map] at hu
  obtain ⟨_,⟨x,_,rfl⟩,hu⟩:=hu
  exact enc_one sc x u hu
 have hb48:(l.length+xs.length) * i.bytes≤140737488355328:=Nat.le_trans (Nat.mul_le_mul hlen hby) (by decide)
 have hfa:flat sc (l ++ xs)=flat sc l ++ flat sc xs:=by simp [flat]
 have fin:∀ (cap:Nat) (pre:List Value),pre=flat sc (l ++ xs)→l.length+xs.length≤cap→∀ (w':World) (tail:Array Value),tail.size=(cap - (l.length+xs.length)) * i.size→w'.heap[w.heap.size]? = some (.cells (pre.toArray ++ tail) e)→
  ∀ ρ',OK ρ' w' ⟨w.heap.size,0,l.length+xs.length,cap,false,none⟩ (.row e sc (l ++ xs)):=by
  intro cap pre hpre hle w' tail htl hh ρ'
  refine ⟨by simp,.inr ⟨rfl,rfl,by simpa using hle,_,hh,?_,?_⟩⟩
  · simp only [Array.size_append,List.size_toArray,htl,hpre,flat_length,hsc,List.length_append,← Nat.add_mul]
    congr 1;omega
  · have:(l ++ xs).length * sc.length=pre.length:=by rw [hpre,flat_length]
    rw [Array.toList_append,this,← hpre]
    exact List.take_left
 obtain ⟨hL,hok⟩:=hok
 rcases hok with ⟨hn,hl0,hc,hemp⟩|⟨hn,ho,hle,arr,hh,hs,htk⟩
 · have hl0:l=([]:List (TT sc)):=hl0
   subst hl0
   simp only [List.length_nil,Nat.zero_add,List.nil_append] at *
   have hr:=run_append_nil (P:=P) w t ty e i z ht hi hz a xs.length c (flat sc xs) hfl hnews hxs (by omega) (by omega)
   have hge:=grownCap_ge w xs.length 0 e
   obtain ⟨w',hw'⟩:∃ w',w'=w.drew.alloc (.cells ((flat sc xs).toArray ++ Builtin.zeroCells z.cells (grownCap w xs.length 0 e - xs.length)) e):=⟨_,rfl⟩
   rw [← hw'] at hr
   refine ⟨⟨w.heap.size,0,xs.length,grownCap w xs.length 0 e,false,none⟩,w',?_,rfl,?_,by rw [hw'];rfl,by rw [hw'];rfl,by rw [hw'];rfl,by rw [hw'];simp,.inr ⟨rfl,fun b hb=>by rw [hw'];exact Below.heap_alloc w.drew _ b hb⟩⟩
   · have hv:rowVal L = .slice none 0 0:=by unfold rowVal;rw [hn,hc,hemp];rfl
     rw [hv]
     exact hr
   · exact fin _ (flat sc xs) rfl hge w' _ (by rw [size_zeroCells,hzs]) (by rw [hw'];exact heap_alloc_new w.drew _)
 · have hv:rowVal L = .slice (some ⟨L.blk,0,none⟩) l.length L.cap:=by unfold rowVal;rw [hn,ho,hL];rfl
   rw [hv]
   by_cases hroom:l.length+xs.length≤L.cap
   · have hfit:l.length * i.size+(flat sc xs).length≤arr.size:=by rw [hfl,hs,hsc,← Nat.add_mul];exact Nat.mul_le_mul_right _ hroom
     have hr:=run_append_room (P:=P) w t ty e i ht hi L.blk l.length L.cap arr hh a xs.length c (flat sc xs) hfl hnews hone hroom hfit
     refine ⟨⟨L.blk,0,l.length+xs.length,L.cap,false,none⟩,_,hr,rfl,fun ρ'=>⟨by simp,.inr ⟨rfl,rfl,by simpa using hroom,_,setRow_heap w L.blk arr _ e _ hh,?_,?_⟩⟩,rfl,rfl,rfl,by simp,.inl ⟨hn,hroom,rfl,fun b hb=>setRow_other w L.blk b _ hb⟩⟩
     · simp only [List.size_toArray,List.length_append,List.length_take,List.length_drop,Array.length_toList]
       rw [← hs]
       omega
     · have htk':arr.toList.take (l.length * i.size)=flat sc l:=by rw [← hsc];exact htk
       show (arr.toList.take (l.length * i.size) ++ flat sc xs ++ _).toArray.toList.take _=_
       rw [htk',← hfa]
       have:(l ++ xs).length * sc.length=(flat sc (l ++ xs)).length:=by rw [flat_length]
       rw [this]
       exact List.take_left
   · have holds:∀ j v,(flat sc l)[j]? = some v→w.cell? ((⟨L.blk,0,none⟩:Addr).add j)=some v:=by
      intro j v hj
      rw [Addr.add_lit,Nat.zero_add,cell_of_row w L.blk j arr e _ hh]
      have hjl:=(List.getElem?_eq_some_iff.1 hj).1
      rw [flat_length] at hjl
      rw [← htk,List.getElem?_take,if_pos hjl] at hj
      simpa using hj
     have hr:=run_append_grow (P:=P) w t ty e i z ht hi hz ⟨L.blk,0,none⟩ l.length L.cap (flat sc l) (by rw [flat_length,hsc]) holds a xs.length c (flat sc xs) hfl hnews (by omega) (by omega) (growslice_fits (by omega) hb48)
     have hge:=grownCap_ge w (l.length+xs.length) L.cap e
     obtain ⟨w',hw'⟩:∃ w',w'=w.drew.alloc (.cells ((flat sc l).toArray ++ (flat sc xs).toArray ++ Builtin.zeroCells z.cells (grownCap w (l.length+xs.length) L.cap e - (l.length+xs.length))) e):=⟨_,rfl⟩
     rw [← hw'] at hr
     refine ⟨⟨w.heap.size,0,l.length+xs.length,grownCap w (l.length+xs.length) L.cap e,false,none⟩,w',hr,rfl,?_,by rw [hw'];rfl,by rw [hw'];rfl,by rw [hw'];rfl,by rw [hw'];simp,.inr ⟨rfl,fun b hb=>by rw [hw'];exact Below.heap_alloc w.drew _ b hb⟩⟩
     exact fin _ (flat sc (l ++ xs)) rfl hge w' _ (by rw [size_zeroCells,hzs]) (by rw [hw',hfa,← List.append_toArray];exact heap_alloc_new w.drew _)
theorem made_row {B:Nat→Prop} {ρ:Rho} {h:Hp} {w w':World} {lo hi id:Nat} {o o':AObj} {L':Loc} {s:SV} (hr:HR B ρ h w) (hf:HFree lo hi h) (hlo:lo<hi) (up:∀ b,w.heap.size≤b→B b) (ho:look h id=some o) (hown:o.own=true) (hown':o'.own=true)
 (hos:w'.os=w.os) (htape:w'.tape=w.tape) (hout:w'.output=w.output) (hsize:w.heap.size≤w'.heap.size) (hn':L'.nil=false) (hok:∀ ρ',OK ρ' w' L' o')
 (hcase:((ρ id).nil=false∧L'.blk=(ρ id).blk∧∀ b,b≠(ρ id).blk→w'.heap[b]? = w.heap[b]?)∨(L'.blk=w.heap.size∧∀ b,b<w.heap.size→w'.heap[b]? = w.heap[b]?)) :
 Made B ρ h w lo hi ⟨s,[(id,.dead),(lo,o')]⟩ (setRho ρ lo L') (den (setRho ρ lo L') s) w':=by
 have hne:∀ i x,look h i=some x→i≠lo:=fun i x hx e=>by have:=(hf i x hx).1;omega
 have hρ:∀ i,i<lo∨hi≤i→setRho ρ lo L' i=ρ i:=fun i hi=>setRho_other _ _ (by omega)
 have apart:∀ j x,look h j=some x→j≠id→x≠.dead→(ρ j).nil=false→w'.heap[(ρ j).blk]? = w.heap[(ρ j).blk]?∧(x.own=true→L'.blk≠(ρ j).blk):=by
  intro j x hx hj hd hn
  have hlt:=(hr.ok j x hx).lt hd hn
  rcases hcase with ⟨c1,c2,c3⟩|⟨c1,c2⟩
  · have hb:(ρ j).blk≠(ρ id).blk:=by
     by_cases hxo:x.own=true
     · exact hr.inj j id x o hx ho hxo hown hn c1 hj
     · have hxs:x.shared=true:=by cases x<;>first|rfl|(exact absurd rfl hd)|(exact absurd rfl hxo)
       exact fun e=>hr.arg j x hx hxs hn (e ▸ hr.inB id o ho hown c1)
    exact ⟨c3 _ hb,fun _ e=>hb (by rw [← e,c2])⟩
  · exact ⟨c2 _ hlt,fun _ e=>by omega⟩
 have hB':B L'.blk:=by
  rcases hcase with ⟨c1,c2,_⟩|⟨c1,_⟩
  · rw [c2];exact hr.inB id o ho hown c1
  · rw [c1];exact up _ (Nat.le_refl _)
 have lk:∀ j x,look (puts h [(id,.dead),(lo,o')]) j=some x→(j=lo∧x=o')∨(j≠lo∧j=id∧x = .dead)∨(j≠lo∧j≠id∧look h j=some x):=by
  intro j x hx
  simp only [puts,look_put] at hx
  by_cases e1:lo=j
  · rw [if_pos e1] at hx;cases hx;exact .inl ⟨e1.symm,rfl⟩
  · rw [if_neg e1] at hx
    by_cases e2:id=j
    · rw [if_pos e2] at hx;cases hx;exact .inr (.inl ⟨fun e=>e1 e.symm,e2.symm,rfl⟩)
    · rw [if_neg e2] at hx;exact .inr (.inr ⟨fun e=>e1 e.symm,fun e=>e2 e.symm,hx⟩)
 refine ⟨rfl,hρ,⟨?_,?_,?_,?_⟩,⟨hos,htape,hout,hsize,fun k hk=>?_⟩⟩
 · intro j x hx
   rcases lk j x hx with ⟨rfl,rfl⟩|⟨_,_,rfl⟩|⟨e1,e2,hx⟩
   · rw [setRho_same];exact hok _
   · trivial
   · by_cases hd:x = .dead
     · subst hd;trivial
     · rw [setRho_other _ _ e1]
       exact (hr.ok j x hx).keep (fun ty' c' e=>denL_free (lo:=lo) (hi:=hi) hρ c' (free_cells (hf j x hx).2 ty' c' e)) (fun hn=>(apart j x hx e2 hd hn).1) hsize
 · intro j x hx hw hn
   rcases lk j x hx with ⟨rfl,rfl⟩|⟨_,_,rfl⟩|⟨e1,e2,hx⟩
   · rw [setRho_same];exact hB'
   · cases hw
   · rw [setRho_other _ _ e1] at hn ⊢;exact hr.inB j x hx hw hn
 · intro j x hx hs hn
   rcases lk j x hx with ⟨rfl,rfl⟩|⟨_,_,rfl⟩|⟨e1,e2,hx⟩
   · cases x<;>first|(cases hown';done)|(cases hs;done)
   · cases hs
   · rw [setRho_other _ _ e1] at hn ⊢;exact hr.arg j x hx hs hn
 · intro i j x y hx0 hy0 hwx hwy hn hn' hij
   rcases lk i x hx0 with ⟨e0,e3⟩|⟨_,_,e3⟩|⟨e1,e2,hx⟩
   · rcases lk j y hy0 with ⟨f0,_⟩|⟨_,_,f3⟩|⟨f1,f2,hy⟩
     · exact absurd (e0.trans f0.symm) hij
     · rw [f3] at hwy;cases hwy
     · rw [e0,setRho_same]
       rw [setRho_other _ _ f1] at hn' ⊢
       exact (apart j y hy f2 (fun e=>by rw [e] at hwy;cases hwy) hn').2 hwy
   · rw [e3] at hwx;cases hwx
   · rcases lk j y hy0 with ⟨f0,_⟩|⟨_,_,f3⟩|⟨f1,f2,hy⟩
     · rw [f0,setRho_same]
       rw [setRho_other _ _ e1] at hn ⊢
       exact fun e=>(apart i x hx e2 (fun e=>by rw [e] at hwx;cases hwx) hn).2 hwx e.symm
     · rw [f3] at hwy;cases hwy
     · rw [setRho_other _ _ e1] at hn ⊢
       rw [setRho_other _ _ f1] at hn' ⊢
       exact hr.inj i j x y hx hy hwx hwy hn hn' hij
 · rcases hcase with ⟨c1,c2,c3⟩|⟨c1,c2⟩
   · exact c3 k fun e=>hk (e ▸ hr.inB id o ho hown c1)
   · exact c2 k (by
      rcases Nat.lt_or_ge k w.heap.size with h'|h'
      · exact h'
      · exact absurd (up k h') hk)
section
variable {P:Program} {C:FuncId→Option Con} {B:Nat→Prop} {ρ:Rho} {h:Hp} {a:Act} {w:World} {ev:Operand→Option SV} {lo:Nat} {o:Oper} {out:Out} {ids:List Nat}
theorem appX_run {sc:List Sc} {z m id2:Nat} {k:List (TT sc)→Rd Out} (hr:(appX sc z m id2 k).run h=some (out,ids)):∃ ty c xs ids',look h id2=some (.cells ty c)∧decRows sc z m c=some xs∧0<m∧(k xs).run h=some (out,ids'):=by
 unfold appX at hr
 obtain ⟨o,ids',ho,hr⟩:=obj_run hr
 split at hr
 · split at hr
   · cases hr
   · rename_i c xs hx
     obtain ⟨hm,hr⟩:=cond_run hr
     exact ⟨_,_,xs,ids',ho,hx,blt_lt hm,hr⟩
 · cases hr
theorem lit_cells {c:Cx B ρ h a w ev lo} {id2:Nat} {ty:TypeId} {cs:List SV} (hl:look h id2=some (.cells ty cs)):∀ j u,(denL ρ cs)[j]? = some u→w.cell? ((⟨(ρ id2).blk,0,none⟩:Addr).add j)=some u:=by
 intro j u hj
 obtain ⟨k1,k2,k3⟩:=c.hr.ok _ _ hl
 rw [Addr.add_lit,Nat.zero_add,cell_of_row w _ j _ ty _ k3]
 simpa using hj
theorem arg_val {L:Loc} {sc:List Sc} {l:List (TT sc)} (hk:OK ρ w L (.arg sc l)) :
 ∃ base,(∀ ρ' id,ρ' id=L→den ρ' (.all id) = .slice base l.length L.cap)∧(L.nil=true→l=[]∧base=L.emp)∧(L.nil=false→base=some ⟨L.blk,L.off,none⟩∧l.length≤L.cap):=by
 obtain ⟨k0,⟨k1,k2⟩|⟨k1,k2,k3,k4⟩⟩:=hk
 · refine ⟨L.emp,fun ρ' id hid=>?_,fun _=>⟨k2,rfl⟩,fun h=>by rw [k1] at h;cases h⟩
   subst k2
   simp only [den,hid,k1,if_true];rfl
 · refine ⟨some ⟨L.blk,L.off,none⟩,fun ρ' id hid=>?_,(fun h=>by rw [k1] at h;cases h),fun _=>⟨rfl,k3⟩⟩
   simp only [den,hid,k1,Bool.false_eq_true,if_false,k0]
theorem arg_of_row {L:Loc} {ty:TypeId} {sc:List Sc} {l:List (TT sc)} (hk:OK ρ w L (.row ty sc l)):OK ρ w L (.arg sc l):=by
 obtain ⟨h0,h|⟨h1,h2,h3,arr,h4,h5,h6⟩⟩:=hk
 · exact ⟨h0,.inl ⟨h.1,h.2.1⟩⟩
 · refine ⟨h0,.inr ⟨h1,(Array.getElem?_eq_some_iff.1 h4).1,h3,fun j v hv=>?_⟩⟩
   rw [h2,Nat.zero_add,cell_of_row w _ _ _ _ _ h4]
   rw [← h6,List.getElem?_take] at hv
   split at hv
   · simpa using hv
   · cases hv
theorem sliced_zero (a:Option Addr) (h m z:Nat):sliced a 0 h m z = .slice a h m:=by
 unfold sliced
 cases a with
 | none=>simp
 | some b=>simp [Addr.add]
theorem sliceS_sound {t:TypeId} {x hi:Operand} {mx:Option Operand} {s sh:SV} (sm:Option SV) (ho:o.op = .slice t x none (some hi) mx) (hs:ev x=some s) (hsh:ev hi=some sh) (c:Cx B ρ h a w ev lo) (hm:mx.map a.eval=sm.map (den ρ)) (hr:(sliceS P t s sh sm).run h=some (out,ids)):Goal P B ρ h a w lo o out:=by
 have e1:=(c.ev _ _ hs).1
 have e2:=(c.ev _ _ hsh).1
 unfold sliceS at hr
 split at hr
 · rename_i el hu
   have hel:P.elem t=el:=by simp [Program.elem,hu]
   have hu':P.underlying t=some (.slice (P.elem t)):=by rw [hel];exact hu
   split at hr
   · cases hr
   · rename_i z hz
     split at hr
     · rename_i kh hv
       split at hr
       · rename_i id
         obtain ⟨ob,ids2,hl,hr⟩:=obj_run hr
         have go:∀ (sc:List Sc) (l:List (TT sc)),OK ρ w (ρ id) (.arg sc l)→(∃ ids',(sliceR id z sc.length l.length hv sm).run h=some (out,ids'))→Goal P B ρ h a w lo o out:=by
          rintro sc l hk ⟨ids',hr⟩
          obtain ⟨base,b1,b3,b4⟩:=arg_val hk
          have hd:=b1 ρ id rfl
          have fin:∀ (mv:Option Value) (hh mm:Nat),mx.map a.eval=mv→(Instr.sliceBounds true l.length (ρ id).cap none (some (.int kh hv)) mv).run P w = .ok (0,hh,mm) w→
           (execOp a.eval o).run P w = .ok (.value (.slice base hh mm)) w:=by
           intro mv hh mm hmv hb
           unfold execOp
           simp only [ho,e1,e2,hmv,Option.map_none,Option.map_some]
           rw [hd]
           simp only [den,Sem.run_bind,run_sliceAt_slice w t _ _ _ _ hu',run_slice_any w t _ _ _ hu',hb,Result.andThen_ok,hel,run_sizeOf' hz,sliced_zero,Sem.run_pure]
          cases sm with
          | none =>
           simp only [sliceR] at hr
           obtain ⟨_,hr⟩:=cond_run hr
           obtain ⟨g0,hr⟩:=br_run hr
           obtain ⟨g1,hr⟩:=br_run hr
           have:=ret_run (h:=h) hr;subst this
           have g0:=of_decide_eq_true g0
           have g1:=of_decide_eq_true g1
           refine goal_pure c ?_
           have hb:(Instr.sliceBounds true l.length (ρ id).cap none (some (.int kh hv)) none).run P w = .ok (0,hv.toNat,(ρ id).cap) w:=by
            have hcap:hv≤((ρ id).cap:Int):=by
             cases hn:(ρ id).nil with
             | true=>obtain ⟨hl0,_⟩:=b3 hn;subst hl0;simp at g1;omega
             | false=>have:=(b4 hn).2;omega
            simp [Instr.sliceBounds,run_sliceBound,g0,hcap]
           rw [fin none _ _ hm hb]
           cases hn:(ρ id).nil with
           | true =>
            obtain ⟨hl0,hbase⟩:=b3 hn
            subst hl0
            have:hv.toNat=0:=by simp at g1;omega
            simp only [den,hn,if_true,hbase,this]
           | false =>
            simp only [den,hn,Bool.false_eq_true,if_false,(b4 hn).1,Nat.zero_mul,Nat.add_zero,Nat.sub_zero]
          | some m =>
           cases m with
           | v x =>
            cases x with
            | int km mv =>
             simp only [sliceR] at hr
             obtain ⟨_,hr⟩:=cond_run hr
             obtain ⟨g0,hr⟩:=br_run hr
             obtain ⟨g1,hr⟩:=br_run hr
             obtain ⟨g2,hr⟩:=br_run hr
             have:=ret_run (h:=h) hr;subst this
             have g0:=of_decide_eq_true g0
             have g1:=of_decide_eq_true g1
             have g2:=of_decide_eq_true g2
             refine goal_pure c ?_
             have hb:(Instr.sliceBounds true l.length (ρ id).cap none (some (.int kh hv)) (some (.int km mv))).run P w = .ok (0,hv.toNat,mv.toNat) w:=by
              have hcap:mv≤((ρ id).cap:Int):=by
               cases hn:(ρ id).nil with
               | true=>obtain ⟨hl0,_⟩:=b3 hn;subst hl0;simp at g2;omega
               | false=>have:=(b4 hn).2;omega
              have hm0:0≤mv:=by omega
              have hm1:hv≤(mv.toNat:Int):=by rw [Int.toNat_of_nonneg hm0];exact g1
              simp only [Instr.sliceBounds,Sem.run_bind,run_sliceBound w _ _ _ _ hm0 hcap,run_sliceBound w _ _ _ _ g0 hm1,Result.andThen_ok,Sem.run_pure]
             rw [fin _ _ _ hm hb]
             cases hn:(ρ id).nil with
             | true =>
              obtain ⟨hl0,hbase⟩:=b3 hn
              subst hl0
              have:hv.toNat=0:=by simp at g2;omega
              simp only [den,hn,if_true,hbase,this]
             | false =>
              simp only [den,hn,Bool.false_eq_true,if_false,(b4 hn).1,Nat.zero_mul,Nat.add_zero]
            | _=>cases hr
           | _=>cases hr
         cases ob with
         | row ty sc l=>exact go sc l (arg_of_row (c.hr.ok _ _ hl)) ⟨_,hr⟩
         | arg sc l=>exact go sc l (c.hr.ok _ _ hl) ⟨_,hr⟩
         | _=>cases hr
       · cases hr
     · cases hr
 · cases hr
theorem sliceLoS_sound {t:TypeId} {x l0:Operand} {s sl:SV} (ho:o.op = .slice t x (some l0) none none) (hs:ev x=some s) (hsl:ev l0=some sl) (c:Cx B ρ h a w ev lo) (hr:(sliceLoS P t s sl).run h=some (out,ids)):Goal P B ρ h a w lo o out:=by
 have e1:=(c.ev _ _ hs).1
 have e2:=(c.ev _ _ hsl).1
 unfold sliceLoS at hr
 split at hr
 · rename_i el hu
   have hel:P.elem t=el:=by simp [Program.elem,hu]
   have hu':P.underlying t=some (.slice (P.elem t)):=by rw [hel];exact hu
   split at hr
   · cases hr
   · rename_i z hz
     split at hr
     · split at hr
       · rename_i k av
         split at hr
         · rename_i id
           obtain ⟨ob,ids2,hl,hr⟩:=obj_run hr
           split at hr
           · rename_i ty sc l
             obtain ⟨hn,hr⟩:=cond_run hr
             obtain ⟨g0,hr⟩:=br_run hr
             obtain ⟨g1,hr⟩:=br_run hr
             have:=ret_run (h:=h) hr;subst this
             have g0:0≤av:=of_decide_eq_true g0
             have g1:av<(l.length:Int):=of_decide_eq_true g1
             obtain ⟨k0,k1⟩:=c.hr.ok _ _ hl
             rcases k1 with ⟨_,k1,_⟩|⟨k1,k2,k3,_⟩
             · subst k1;simp at g1;omega
             · refine goal_pure c ?_
               have hd:den ρ (.all id) = .slice (some ⟨(ρ id).blk,(ρ id).off,none⟩) l.length (ρ id).cap:=by simp only [den,k1,Bool.false_eq_true,if_false,k0]
               have hb:(Instr.sliceBounds true l.length (ρ id).cap (some (.int k av)) none none).run P w = .ok (av.toNat,l.length,(ρ id).cap) w:=by
                have hle:av≤((l.length:Nat):Int):=by omega
                simp [Instr.sliceBounds,run_sliceBound,g0,hle]
               unfold execOp
               simp only [ho,e1,e2,Option.map_none,Option.map_some]
               rw [hd]
               simp only [den,Sem.run_bind,run_sliceAt_slice w t _ _ _ _ hu',run_slice_any w t _ _ _ hu',hb,Result.andThen_ok,hel,run_sizeOf' hz,Sem.run_pure,k1,Bool.false_eq_true,if_false]
               unfold sliced
               simp [Addr.add_lit]
               intro hcap
               exfalso;omega
           · cases hr
         · cases hr
       · cases hr
     · cases hr
 · cases hr
theorem slice_sound {t:TypeId} {x:Operand} {lo' hi mx:Option Operand} (ho:o.op = .slice t x lo' hi mx) (c:Cx B ρ h a w ev lo) (hr:(eff P C o ev lo).run h=some (out,ids)):Goal P B ρ h a w lo o out:=by
 unfold eff at hr
 rw [ho] at hr
 cases lo' with
 | some l0 =>
  cases hi with
  | some _=>cases hr
  | none =>
   cases mx with
   | some _=>cases hr
   | none =>
    obtain ⟨s,hs,hr⟩:=w1_run hr
    obtain ⟨sl,hsl,hr⟩:=w1_run hr
    exact sliceLoS_sound ho hs hsl c hr
 | none =>
 cases hi with
 | none=>cases hr
 | some hi =>
 obtain ⟨s,hs,hr⟩:=w1_run hr
 obtain ⟨sh,hsh,hr⟩:=w1_run hr
 cases mx with
 | none=>exact sliceS_sound none ho hs hsh c rfl hr
 | some m =>
  obtain ⟨sm,hsm,hr⟩:=w1_run hr
  exact sliceS_sound (some sm) ho hs hsh c (by simp [(c.ev _ _ hsm).1]) hr
theorem src_arg {L:Loc} {t e:TypeId} {z id:Nat} {sc:List Sc} {l:List (TT sc)} (ht:P.underlying t=some (.slice e)) (hsc:sc.length=z) (hk:OK ρ w L (.arg sc l)) (hid:ρ id=L):Go.Src P z t (den ρ (.all id)) l.length (flat sc l) w:=by
 have hone:∀ u∈flat sc l,u.oneCell'=true:=by
  intro u hu
  simp only [flat,List.mem_flatten,List.mem_map] at hu
  obtain ⟨_,⟨x,_,rfl⟩,hu⟩:=hu
  exact enc_one sc x u hu
 obtain ⟨k0,⟨k1,k2⟩|⟨k1,k2,k3,k4⟩⟩:=hk
 · have k2:l=([]:List (TT sc)):=k2
   subst k2
   have:den ρ (.all id) = .slice L.emp 0 L.cap:=by simp only [den,hid,k1,if_true]
   rw [this]
   cases L.emp with
   | none=>exact Go.Src.ofNil w ht L.cap
   | some b=>exact Go.Src.ofSlice w ht b 0 L.cap [] (by simp) (fun j u hu=>by simp at hu) (fun u hu=>by cases hu)
 · have:den ρ (.all id) = .slice (some ⟨L.blk,L.off,none⟩) l.length L.cap:=by simp only [den,hid,k1,Bool.false_eq_true,if_false,k0]
   rw [this]
   exact Go.Src.ofSlice w ht _ _ _ _ (by rw [flat_length,hsc]) (fun j u hu=>by rw [Addr.add_lit];exact k4 j u hu) hone
theorem run_append_nothing {t ty e:TypeId} {i:TypeInfo} (ht:P.underlying t=some (.slice e)) (hi:P.info? e=some i) (base:Option Addr) (len cap:Nat) (hle:len≤cap) (x:Value) (hs:Go.Src P i.size t x 0 [] w) :
 (Builtin.append_ #[t,t] ty #[.slice base len cap,x]).run P w = .ok (.slice base len cap) w:=by
 have hst:∀ a:Addr,(storeCells a []).run P w = .ok () w:=fun a=>rfl
 cases base with
 | none=>simp [Builtin.append_,run_underlying ht,sizeOf,typeInfo,hi,hs.len,hle,hs.cells]
 | some b=>simp [Builtin.append_,run_underlying ht,sizeOf,typeInfo,hi,hs.len,hle,hs.cells,hst]
theorem appA_sound {cl:Call} {t e:TypeId} {i:TypeInfo} {zv:Value} {x y:Operand} {n len cap id id2:Nat} {sc:List Sc} {l:List (TT sc)} (ho:o.op = .call cl) (hc:cl.callee = .builtin .append) (ht:cl.argTypes = #[t,t]) (hx:cl.args = #[x,y])
 (hs:ev x=some (.slc id n 0 len (some cap))) (hsx:ev y=some (.all id2)) (c:Cx B ρ h a w ev lo) (hu:P.underlying t=some (.slice e)) (hi:P.info? e=some i) (hz:i.zero=some zv) (hzs:zv.cells.size=i.size) (hsz:0<i.size) (hby:i.bytes≤140000)
 (hk:OK ρ w (ρ id) (.arg sc l)) (hr:(appA e i.size n len cap id id2 lo sc l).run h=some (out,ids)):Goal P B ρ h a w lo o out:=by
 have e1:=(c.ev _ _ hs).1
 have e2:=(c.ev _ _ hsx).1
 have key:∀ (v:Value) (w':World),(Builtin.append_ #[t,t] o.type #[den ρ (.slc id n 0 len (some cap)),den ρ (.all id2)]).run P w = .ok v w'→(execOp a.eval o).run P w = .ok (.value v) w':=by
  intro v w' hv
  unfold execOp
  simp only [ho,resolve,hc,ht,hx,List.map_toArray,List.map_cons,List.map_nil,e1,e2,Sem.run_bind,Sem.run_pure,Result.andThen_ok,invoke,builtin,hv]
 unfold appA at hr
 obtain ⟨hb,hr⟩:=cond_run hr
 rw [Bool.and_eq_true] at hb
 have hn:=Nat.eq_of_beq_eq_true hb.1
 have hsc:=Nat.eq_of_beq_eq_true hb.2
 obtain ⟨o2,ids2,hl2,hr⟩:=obj_run hr
 cases hcx:castO sc o2 with
 | none=>rw [hcx] at hr;cases hr
 | some xs =>
  rw [hcx] at hr
  replace hr:=(show (Rd.br (Nat.beq len l.length && (Nat.beq cap l.length && Nat.ble (l.length+xs.length) 1000000000)) (.br (Nat.beq xs.length 0) (.ret ⟨.slc id n 0 len (some cap),[]⟩) (.ret ⟨.all lo,[(lo,.row e sc (l ++ xs))]⟩)) .fail).run h=some (out,ids2) from hr)
  obtain ⟨hb,hr⟩:=br_run hr
  simp only [Bool.and_eq_true] at hb
  obtain rfl:=Nat.eq_of_beq_eq_true hb.1
  obtain rfl:=Nat.eq_of_beq_eq_true hb.2.1
  have hbig:=Nat.le_of_ble_eq_true hb.2.2
  have hk2:OK ρ w (ρ id2) (.arg sc xs):=by
   have hok:=c.hr.ok _ _ hl2
   unfold castO at hcx
   split at hcx
   · obtain ⟨rfl,rfl⟩:=castL_eq hcx;exact arg_of_row hok
   · obtain ⟨rfl,rfl⟩:=castL_eq hcx;exact hok
   · cases hcx
  have src:=src_arg (w:=w) (z:=i.size) hu hsc hk2 rfl
  obtain ⟨base,b1,b3,b4⟩:=arg_val hk
  have hd:den ρ (.slc id n 0 l.length (some l.length)) = .slice base l.length l.length:=by
   cases hn2:(ρ id).nil with
   | true =>
    obtain ⟨hl0,hbase⟩:=b3 hn2
    subst hl0
    simp only [den,hn2,if_true,hbase,List.length_nil]
   | false=>simp only [den,hn2,Bool.false_eq_true,if_false,(b4 hn2).1,Nat.zero_mul,Nat.add_zero]
  rw [hd] at key
  by_cases hx0:xs.length=0
  · have hxs:xs=[]:=List.length_eq_zero_iff.1 hx0
    subst hxs
    have:=ret_run (h:=h) (show (Rd.ret (⟨.slc id n 0 l.length (some l.length),[]⟩:Out)).run h=some (out,ids2) from hr)
    subst this
    refine goal_pure c ?_
    rw [hd]
    exact key _ _ (run_append_nothing hu hi base _ _ (Nat.le_refl _) _ src)
  · have hb0:Nat.beq xs.length 0=false:=beq_no hx0
    have hr2:(Rd.ret (⟨.all lo,[(lo,.row e sc (l ++ xs))]⟩:Out)).run h=some (out,ids2):=by
     have:=hr
     simp only [Rd.run,hb0] at this
     exact this
    have:=ret_run (h:=h) hr2
    subst this
    have hold:(Builtin.firstCells i.size l.length (.slice base l.length l.length)).run P w.drew = .ok (flat sc l).toArray w.drew:=by
     obtain ⟨k0,⟨k1,k2⟩|⟨k1,k2,k3,k4⟩⟩:=hk
     · have k2:l=([]:List (TT sc)):=k2
       subst k2
       cases base with
       | none=>exact run_firstCells_none w.drew i.size 0 0 0
       | some b=>exact run_firstCells_some w.drew i.size 0 b 0 0 [] (by simp) (fun j u hu=>by simp at hu)
     · rw [(b4 k1).1]
       exact run_firstCells_some w.drew i.size l.length _ _ _ (flat sc l) (by rw [flat_length,hsc]) (fun j u hu=>by rw [Addr.add_lit];exact k4 j u hu)
    have hb48:(l.length+xs.length) * i.bytes≤140737488355328:=Nat.le_trans (Nat.mul_le_mul hbig hby) (by decide)
    have hrun:=Go.run_append_grow_src (P:=P) w t t o.type e i zv hu hi hz base l.length l.length (flat sc l) hold _ xs.length (flat sc xs) src (by omega) (by omega) (growslice_fits (by omega) hb48)
    have hge:=grownCap_ge w (l.length+xs.length) l.length e
    obtain ⟨w',hw'⟩:∃ w',w'=w.drew.alloc (.cells ((flat sc l ++ flat sc xs).toArray ++ Builtin.zeroCells zv.cells (grownCap w (l.length+xs.length) l.length e - (l.length+xs.length))) e):=⟨_,rfl⟩
    rw [← hw'] at hrun
    have hfa:flat sc (l ++ xs)=flat sc l ++ flat sc xs:=by simp [flat]
    have hokn:OK (setRho ρ lo ⟨w.heap.size,0,l.length+xs.length,grownCap w (l.length+xs.length) l.length e,false,none⟩) w' ⟨w.heap.size,0,l.length+xs.length,grownCap w (l.length+xs.length) l.length e,false,none⟩ (.row e sc (l ++ xs)):=by
     refine ⟨by simp,.inr ⟨rfl,rfl,by simpa using hge,_,by rw [hw'];exact heap_alloc_new w.drew _,?_,?_⟩⟩
     · simp only [Array.size_append,List.size_toArray,size_zeroCells,hzs,← hfa,flat_length,hsc,List.length_append,← Nat.add_mul]
       congr 1;omega
     · have:(l ++ xs).length * sc.length=(flat sc l ++ flat sc xs).length:=by rw [← hfa,flat_length]
       rw [Array.toList_append,this,hfa]
       exact List.take_left
    have m:=made_new (B:=B) (lo:=lo) (hi:=lo+wide) (s:=.all lo) (o:=.row e sc (l ++ xs)) c.hr c.hf (by unfold wide;omega) c.up (w':=w')
     ⟨by rw [hw'];rfl,by rw [hw'];rfl,by rw [hw'];rfl,by rw [hw'];simp,fun k hk=>by
      rw [hw']
      refine Below.heap_alloc w.drew _ k ?_
      rcases Nat.lt_or_ge k w.heap.size with h'|h'
      · exact h'
      · exact absurd (c.up k h') hk⟩
     (fun b hb=>by rw [hw'];exact Below.heap_alloc w.drew _ b hb) rfl (fun _=>Nat.le_refl _) hokn
    refine Gives.value (w':=w') (v:=den (setRho ρ lo ⟨w.heap.size,0,l.length+xs.length,grownCap w (l.length+xs.length) l.length e,false,none⟩) (.all lo)) ?_ ⟨_,m⟩
    rw [key _ _ hrun]
    simp only [den,setRho_same]
    rfl
theorem made_move {hi id:Nat} {o':AObj} (hr:HR B ρ h w) (hf:HFree lo hi h) (hlo:lo<hi) (up:∀ b,w.heap.size≤b→B b) (ho:look h id=some o') (hown:o'.own=true) (hok:∀ ρ',OK ρ' w (ρ id) o') (s:SV) :
 Made B ρ h w lo hi ⟨s,[(id,.dead),(lo,o')]⟩ (setRho ρ lo (ρ id)) (den (setRho ρ lo (ρ id)) s) w:=by
 cases hn:(ρ id).nil with
 | false=>exact made_row hr hf hlo up ho hown hown rfl rfl rfl (Nat.le_refl _) hn hok (.inl ⟨hn,rfl,fun _ _=>rfl⟩)
 | true =>
  have hne:∀ i x,look h i=some x→i≠lo:=fun i x hx e=>by have:=(hf i x hx).1;omega
  have hρ:∀ i,i<lo∨hi≤i→setRho ρ lo (ρ id) i=ρ i:=fun i hi=>setRho_other _ _ (by omega)
  have lk:∀ j x,look (puts h [(id,.dead),(lo,o')]) j=some x→(j=lo∧x=o')∨x = .dead∨(j≠lo∧look h j=some x):=by
   intro j x hx
   simp only [puts,look_put] at hx
   by_cases e1:lo=j
   · rw [if_pos e1] at hx;cases hx;exact .inl ⟨e1.symm,rfl⟩
   · rw [if_neg e1] at hx
     by_cases e2:id=j
     · rw [if_pos e2] at hx;cases hx;exact .inr (.inl rfl)
     · rw [if_neg e2] at hx;exact .inr (.inr ⟨fun e=>e1 e.symm,hx⟩)
  refine ⟨rfl,hρ,⟨fun j x hx=>?_,fun j x hx hw hn'=>?_,fun j x hx hs hn'=>?_,fun i j x y hx hy hwx hwy hn1 hn2 hij=>?_⟩,Keeps.refl _ _⟩
  · rcases lk j x hx with ⟨rfl,rfl⟩|rfl|⟨e1,hx⟩
    · rw [setRho_same];exact hok _
    · trivial
    · rw [setRho_other _ _ e1]
      exact (hr.ok j x hx).keep (fun ty' c' e=>denL_free (lo:=lo) (hi:=hi) hρ c' (free_cells (hf j x hx).2 ty' c' e)) (fun _=>rfl) (Nat.le_refl _)
  · rcases lk j x hx with ⟨rfl,rfl⟩|rfl|⟨e1,hx⟩
    · rw [setRho_same] at hn';rw [hn] at hn';cases hn'
    · cases hw
    · rw [setRho_other _ _ e1] at hn' ⊢;exact hr.inB j x hx hw hn'
  · rcases lk j x hx with ⟨rfl,rfl⟩|rfl|⟨e1,hx⟩
    · rw [setRho_same] at hn';rw [hn] at hn';cases hn'
    · cases hs
    · rw [setRho_other _ _ e1] at hn' ⊢;exact hr.arg j x hx hs hn'
  · rcases lk i x hx with ⟨rfl,rfl⟩|rfl|⟨e1,hx⟩
    · rw [setRho_same] at hn1;rw [hn] at hn1;cases hn1
    · cases hwx
    · rcases lk j y hy with ⟨rfl,rfl⟩|rfl|⟨f1,hy⟩
      · rw [setRho_same] at hn2;rw [hn] at hn2;cases hn2
      · cases hwy
      · rw [setRho_other _ _ e1] at hn1 ⊢;rw [setRho_other _ _ f1] at hn2 ⊢;exact hr.inj i j x y hx hy hwx hwy hn1 hn2 hij
theorem appR_sound {cl:Call} {t e:TypeId} {i:TypeInfo} {zv:Value} {x y:Operand} {id id2:Nat} (ho:o.op = .call cl) (hc:cl.callee = .builtin .append) (ht:cl.argTypes = #[t,t]) (hx:cl.args = #[x,y])
 (hs:ev x=some (.all id)) (hsx:ev y=some (.all id2)) (c:Cx B ρ h a w ev lo) (hu:P.underlying t=some (.slice e)) (hi:P.info? e=some i) (hz:i.zero=some zv) (hzs:zv.cells.size=i.size) (hsz:0<i.size) (hby:i.bytes≤140000)
 (hr:(Rd.obj id fun o=>match o with
  | .row e' sc l=>cond (Nat.beq e' e && Nat.beq sc.length i.size) (.obj id2 fun o2=>.opt (castO sc o2) fun xs=>.br (Nat.ble (l.length+xs.length) 1000000000) (.ret ⟨.all lo,[(id,.dead),(lo,.row e sc (l ++ xs))]⟩) .fail) .fail
  | _=>.fail:Rd Out).run h=some (out,ids)):Goal P B ρ h a w lo o out:=by
 have e1:=(c.ev _ _ hs).1
 have e2:=(c.ev _ _ hsx).1
 have key:∀ (v:Value) (w':World),(Builtin.append_ #[t,t] o.type #[den ρ (.all id),den ρ (.all id2)]).run P w = .ok v w'→(execOp a.eval o).run P w = .ok (.value v) w':=by
  intro v w' hv
  unfold execOp
  simp only [ho,resolve,hc,ht,hx,List.map_toArray,List.map_cons,List.map_nil,e1,e2,Sem.run_bind,Sem.run_pure,Result.andThen_ok,invoke,builtin,hv]
 obtain ⟨ob,ids1,hl,hr⟩:=obj_run hr
 split at hr
 · rename_i e' sc l
   obtain ⟨hb,hr⟩:=cond_run hr
   rw [Bool.and_eq_true] at hb
   have he:=Nat.eq_of_beq_eq_true hb.1
   have hsc:=Nat.eq_of_beq_eq_true hb.2
   subst he
   obtain ⟨o2,ids2,hl2,hr⟩:=obj_run hr
   cases hcx:castO sc o2 with
   | none=>rw [hcx] at hr;cases hr
   | some xs =>
    rw [hcx] at hr
    replace hr:=(show (Rd.br (Nat.ble (l.length+xs.length) 1000000000) (.ret ⟨.all lo,[(id,.dead),(lo,.row e' sc (l ++ xs))]⟩) .fail:Rd Out).run h=some (out,ids2) from hr)
    obtain ⟨hbig,hr⟩:=br_run hr
    have hbig:=Nat.le_of_ble_eq_true hbig
    have:=ret_run (h:=h) hr
    subst this
    have hk:=c.hr.ok _ _ hl
    have hk2:OK ρ w (ρ id2) (.arg sc xs):=by
     have hok:=c.hr.ok _ _ hl2
     unfold castO at hcx
     split at hcx
     · obtain ⟨rfl,rfl⟩:=castL_eq hcx;exact arg_of_row hok
     · obtain ⟨rfl,rfl⟩:=castL_eq hcx;exact hok
     · cases hcx
    by_cases hx0:xs.length=0
    · have hxs:xs=([]:List (TT sc)):=List.length_eq_zero_iff.1 hx0
      subst hxs
      have src:=src_arg (w:=w) (z:=i.size) hu hsc hk2 rfl
      obtain ⟨base,b1,b3,b4⟩:=arg_val (arg_of_row hk)
      have hle:l.length≤(ρ id).cap:=by
       cases hn2:(ρ id).nil with
       | true=>obtain ⟨hl0,_⟩:=b3 hn2;rw [hl0];exact Nat.zero_le _
       | false=>exact (b4 hn2).2
      rw [List.append_nil]
      have m:=made_move (s:=.all lo) c.hr c.hf (show lo<lo+wide by unfold wide;omega) c.up hl rfl (fun ρ'=>hk)
      refine Gives.value (w':=w) (v:=den (setRho ρ lo (ρ id)) (.all lo)) ?_ ⟨_,m⟩
      rw [b1 _ lo (setRho_same _ _ _)]
      refine key _ _ ?_
      rw [b1 ρ id rfl]
      exact run_append_nothing hu hi base _ _ hle _ src
    · obtain ⟨k0,⟨k1,k2⟩|⟨k1,k2,k3,k4⟩⟩:=hk2
      · rw [k2] at hx0;exact absurd rfl hx0
      · have hd:den ρ (.all id2) = .slice (some ⟨(ρ id2).blk,(ρ id2).off,none⟩) xs.length (ρ id2).cap:=by simp only [den,k1,Bool.false_eq_true,if_false,k0]
        obtain ⟨L',w',r1,r2,r3,r4,r5,r6,r7,r8⟩:=append_core (ty:=o.type) hu hi hz hzs hsz hby hsc hbig (by omega) hk ⟨(ρ id2).blk,(ρ id2).off,none⟩ (ρ id2).cap (fun j u hu=>by rw [Addr.add_lit];exact k4 j u hu)
        have hrun:=key (rowVal L') w' (by rw [hd];exact r1)
        have mk:=made_row (s:=.all lo) c.hr c.hf (show lo<lo+wide by unfold wide;omega) c.up hl rfl (o':=.row e' sc (l ++ xs)) rfl r4 r5 r6 r7 r2 r3 (by
         rcases r8 with ⟨q1,_,q2,q3⟩|q
         · exact .inl ⟨q1,q2,q3⟩
         · exact .inr q)
        refine Gives.value (w':=w') (v:=den (setRho ρ lo L') (.all lo)) ?_ ⟨_,mk⟩
        rw [hrun]
        simp only [den,setRho_same]
        rfl
 · cases hr
theorem run_copy_sized {P:Program} (w:World) (dT sT ty elem:TypeId) (i:TypeInfo) (g o dLen dCap:Nat) (a:Addr) (sLen sCap:Nat) (cur:Array Value) (t:TypeId) (cs:List Value)
 (hu:P.underlying dT=some (.slice elem)) (hq:P.info? elem=some i)
 (hg:w.heap[g]? = some (.cells cur t (0,0))) (hn:cs.length=Nat.min sLen dLen * i.size)
 (hsrc:∀ j v,cs[j]? = some v→w.cell? (a.add j)=some v) (hfit:o+cs.length≤cur.size) (h1:∀ v∈cs,v.oneCell'=true) :
 (Builtin.copy_ #[dT,sT] ty #[.slice (some ⟨g,o,none⟩) dLen dCap,.slice (some a) sLen sCap]).run P w =
  .ok (goInt (Nat.min sLen dLen)) (w.setRow g (cur.toList.take o ++ cs ++ cur.toList.drop (o+cs.length)).toArray):=by
 have hl:=run_loadCells_list (P:=P) w a cs hsrc
 have hst:=Go.run_storeCells_at P g o t cs 0 cur w hg (by simpa using hfit) h1
 simp [Builtin.copy_,run_underlying hu,Builtin.lenOf,Builtin.firstCells,sizeOf,typeInfo,hq,← hn,hl,hst]
theorem flat_app (s:List Sc) (l m:List (TT s)):flat s (l ++ m)=flat s l ++ flat s m:=by unfold flat;rw [List.map_append,List.flatten_append]
theorem flat_tk (s:List Sc) (l:List (TT s)) (i:Nat):(flat s l).take (i * s.length)=flat s (l.take i)∧(flat s l).drop (i * s.length)=flat s (l.drop i):=by
 rcases Nat.le_total i l.length with hi|hi
 · have h1:flat s l=flat s (l.take i) ++ flat s (l.drop i):=by rw [← flat_app,List.take_append_drop]
   have h2:(flat s (l.take i)).length=i * s.length:=by rw [flat_length,List.length_take,Nat.min_eq_left hi]
   rw [h1,List.take_left' h2,List.drop_left' h2]
   exact ⟨rfl,rfl⟩
 · have h2:(flat s l).length≤i * s.length:=by rw [flat_length];exact Nat.mul_le_mul_right _ hi
   rw [List.take_of_length_le h2,List.drop_of_length_le h2,List.take_of_length_le hi,List.drop_of_length_le hi]
   exact ⟨rfl,rfl⟩
theorem span_den {z L:Nat} {s:SV} {i:Nat} {p:Nat × Nat} (hi:idOf s=some i) (hp:spanOf z L s=some p) (hn:(ρ i).nil=false) (hl:(ρ i).len=L):∃ cp,den ρ s = .slice (some ⟨(ρ i).blk,(ρ i).off+p.1 * z,none⟩) p.2 cp:=by
 cases s with
 | all id =>
  cases hi;cases hp
  exact ⟨(ρ i).cap,by simp only [den,hn,Bool.false_eq_true,if_false,hl,Nat.zero_mul,Nat.add_zero]⟩
 | slc id n off len cap =>
  cases hi
  simp only [spanOf] at hp
  cases hb:Nat.beq n z with
  | false=>rw [hb] at hp;cases hp
  | true =>
   rw [hb] at hp
   cases hp
   have:=Nat.eq_of_beq_eq_true hb
   subst this
   obtain ⟨cp,hc⟩:=den_slc hn n off len cap
   exact ⟨cp,hc⟩
 | _=>cases hi
theorem copy_sound {cl:Call} {t t':TypeId} {x y:Operand} {s sx:SV} (ho:o.op = .call cl) (hc:cl.callee = .builtin .copy) (ht:cl.argTypes = #[t,t']) (hx:cl.args = #[x,y]) (hs:ev x=some s) (hsx:ev y=some sx) (c:Cx B ρ h a w ev lo)
 (hr:(copyS P t s sx).run h=some (out,ids)):Goal P B ρ h a w lo o out:=by
 have e1:=(c.ev _ _ hs).1
 have e2:=(c.ev _ _ hsx).1
 have key:∀ v w',(Builtin.copy_ #[t,t'] o.type #[den ρ s,den ρ sx]).run P w = .ok v w'→(execOp a.eval o).run P w = .ok (.value v) w':=by
  intro v w' hv
  unfold execOp
  simp only [ho,resolve,hc,ht,hx,List.map_toArray,List.map_cons,List.map_nil,e1,e2,Sem.run_bind,Sem.run_pure,Result.andThen_ok,invoke,builtin,hv]
 unfold copyS at hr
 split at hr
 case h_2=>cases hr
 rename_i e hu
 cases hz:szT P e with
 | none=>rw [hz] at hr;cases hr
 | some z =>
 rw [hz] at hr
 simp only at hr
 obtain ⟨inf,hinf,hsz⟩:∃ inf,P.info? e=some inf∧inf.size=z:=by
  unfold szT at hz
  cases hi:P.info? e with
  | none=>rw [hi] at hz;cases hz
  | some i=>rw [hi] at hz;cases hz;exact ⟨i,rfl,rfl⟩
 cases hi:idOf s with
 | none=>rw [hi] at hr;cases hr
 | some i =>
 rw [hi] at hr
 simp only at hr
 cases hj:idOf sx with
 | none=>rw [hj] at hr;cases hr
 | some j =>
 rw [hj] at hr
 simp only at hr
 obtain ⟨ob,ids1,hli,hr⟩:=obj_run hr
 split at hr
 case h_2=>cases hr
 rename_i ty sc l
 obtain ⟨hscz,hr⟩:=cond_run hr
 have hscz:=Nat.eq_of_beq_eq_true hscz
 obtain ⟨o2,ids2,hlj,hr⟩:=obj_run hr
 cases hcx:castO sc o2 with
 | none=>rw [hcx] at hr;cases hr
 | some l2 =>
 rw [hcx] at hr
 have hk2:OK ρ w (ρ j) (.arg sc l2):=by
  have hok:=c.hr.ok _ _ hlj
  unfold castO at hcx
  split at hcx
  · obtain ⟨rfl,rfl⟩:=castL_eq hcx;exact arg_of_row hok
  · obtain ⟨rfl,rfl⟩:=castL_eq hcx;exact hok
  · cases hcx
 replace hr:=(show (match spanOf z l.length s with
  | none=>(.fail:Rd Out)
  | some p=>match spanOf z l2.length sx with
   | none=>.fail
   | some q=>.br (Nat.blt 0 l.length && (Nat.blt 0 l2.length && (Nat.ble (p.1+p.2) l.length && Nat.ble (q.1+q.2) l2.length)))
    (.ret ⟨.v (.int .i64 ((Nat.min q.2 p.2:Nat):Int)),[(i,.row ty sc (cpRow l l2 p.1 q.1 (Nat.min q.2 p.2)))]⟩) .fail).run h=some (out,ids2) from by
  simp only [Rd.run] at hr
  exact hr)
 cases hp:spanOf z l.length s with
 | none=>rw [hp] at hr;cases hr
 | some p =>
 rw [hp] at hr
 simp only at hr
 cases hq:spanOf z l2.length sx with
 | none=>rw [hq] at hr;cases hr
 | some q =>
 rw [hq] at hr
 simp only at hr
 obtain ⟨hb,hr⟩:=br_run hr
 have:=ret_run (h:=h) hr;subst this
 simp only [Bool.and_eq_true] at hb
 obtain ⟨b1,b2,b3,b4⟩:=hb
 have b1:0<l.length:=blt_lt b1
 have b2:0<l2.length:=blt_lt b2
 have b3:=Nat.le_of_ble_eq_true b3
 have b4:=Nat.le_of_ble_eq_true b4
 obtain ⟨k0,k1⟩:=c.hr.ok _ _ hli
 rcases k1 with ⟨_,k1,_⟩|⟨k1,k2,k3,arr,k4,k5,k6⟩
 · subst k1;simp at b1
 obtain ⟨m0,m1⟩:=hk2
 rcases m1 with ⟨_,m1⟩|⟨m1,m2,m3,m4⟩
 · subst m1;simp at b2
 obtain ⟨cp1,hd1⟩:=span_den hi hp k1 k0
 obtain ⟨cp2,hd2⟩:=span_den hj hq m1 m0
 rw [k2,Nat.zero_add] at hd1
 obtain ⟨m,hm⟩:∃ m,m=Nat.min q.2 p.2:=⟨_,rfl⟩
 have hmq:m≤q.2:=by rw [hm];exact Nat.min_le_left _ _
 have hmp:m≤p.2:=by rw [hm];exact Nat.min_le_right _ _
 obtain ⟨cs,hcs⟩:∃ cs,cs=flat sc ((l2.drop q.1).take m):=⟨_,rfl⟩
 have hclen:cs.length=m * z:=by
  rw [hcs,flat_length,List.length_take,List.length_drop,hscz,Nat.min_eq_left (by omega)]
 have hsl:arr.toList.length=(ρ i).cap * z:=by rw [Array.length_toList,k5,hscz]
 have hfit:p.1 * z+cs.length≤l.length * z:=by
  rw [hclen,← Nat.add_mul];exact Nat.mul_le_mul_right _ (by omega)
 have hcapz:l.length * z≤(ρ i).cap * z:=Nat.mul_le_mul_right _ k3
 have hone:∀ u∈cs,u.oneCell'=true:=by
  intro u hu'
  rw [hcs] at hu'
  simp only [flat,List.mem_flatten,List.mem_map] at hu'
  obtain ⟨_,⟨x,_,rfl⟩,hu'⟩:=hu'
  exact enc_one sc x u hu'
 have hsrc:∀ k v,cs[k]? = some v→w.cell? ((⟨(ρ j).blk,(ρ j).off+q.1 * z,none⟩:Addr).add k)=some v:=by
  intro k v hv
  rw [Addr.add_lit]
  have hkl:k<m * z:=by rw [← hclen];exact (List.getElem?_eq_some_iff.1 hv).1
  rw [hcs,← (flat_tk sc (l2.drop q.1) m).1,← (flat_tk sc l2 q.1).2,hscz,List.getElem?_take,if_pos hkl,List.getElem?_drop] at hv
  have:=m4 _ _ hv
  rwa [← Nat.add_assoc] at this
 have hrun:=run_copy_sized (P:=P) w t t' o.type e inf (ρ i).blk (p.1 * z) p.2 cp1 ⟨(ρ j).blk,(ρ j).off+q.1 * z,none⟩ q.2 cp2 arr ty cs hu hinf k4 (by rw [hclen,hsz,hm]) hsrc (by rw [← Array.length_toList,hsl];omega) hone
 have hk:=key _ _ (by rw [hd1,hd2];exact hrun)
 have hlo:=(c.hf _ _ hli).1
 have hnl:(cpRow l l2 p.1 q.1 m).length=l.length:=by
  unfold cpRow
  simp only [List.length_append,List.length_take,List.length_drop]
  omega
 refine Gives.value (w':=w.setRow (ρ i).blk (arr.toList.take (p.1 * z) ++ cs ++ arr.toList.drop (p.1 * z+cs.length)).toArray) hk ⟨ρ,?_⟩
 refine made_set (s:=.v (.int .i64 ((Nat.min q.2 p.2:Nat):Int))) (o':=.row ty sc (cpRow l l2 p.1 q.1 (Nat.min q.2 p.2))) c.hr hlo hli rfl rfl k1 rfl rfl rfl (setRow_size _ _ _) (fun b hb=>setRow_other _ _ _ _ hb) ?_
 rw [← hm]
 refine ⟨by rw [hnl];exact k0,.inr ⟨k1,k2,by rw [hnl];exact k3,_,setRow_heap _ _ _ _ _ _ k4,?_,?_⟩⟩
 · show (repl arr.toList (p.1 * z) cs).toArray.size=_
   rw [List.size_toArray,repl_length _ _ _ (by rw [hsl];omega),hsl,hscz]
 · show ((repl arr.toList (p.1 * z) cs).toArray.toList).take _=_
   rw [hnl,List.toList_toArray,hscz,take_repl _ _ _ _ (by omega) (by rw [hsl];omega),← hscz,k6]
   unfold repl cpRow
   rw [flat_app,flat_app,(flat_tk sc l p.1).1,hcs,← (flat_tk sc l (p.1+m)).2]
   have:p.1 * sc.length+(flat sc ((l2.drop q.1).take m)).length=(p.1+m) * sc.length:=by rw [← hcs,hclen,hscz,Nat.add_mul]
   rw [this,List.append_assoc]
theorem append_sound {cl:Call} {t:TypeId} {x y:Operand} {s sx:SV} (ho:o.op = .call cl) (hc:cl.callee = .builtin .append) (ht:cl.argTypes = #[t,t]) (hx:cl.args = #[x,y]) (hs:ev x=some s) (hsx:ev y=some sx) (c:Cx B ρ h a w ev lo)
 (hr:(appS P t s sx lo).run h=some (out,ids)):Goal P B ρ h a w lo o out:=by
 have e1:=(c.ev _ _ hs).1
 have e2:=(c.ev _ _ hsx).1
 have key:∀ v w',(Builtin.append_ #[t,t] o.type #[den ρ s,den ρ sx]).run P w = .ok v w'→(execOp a.eval o).run P w = .ok (.value v) w':=by
  intro v w' hv
  unfold execOp
  simp only [ho,resolve,hc,ht,hx,List.map_toArray,List.map_cons,List.map_nil,e1,e2,Sem.run_bind,Sem.run_pure,Result.andThen_ok,invoke,builtin,hv]
 unfold appS at hr
 split at hr
 · rename_i e hu
   split at hr
   · cases hr
   · rename_i i hi
     split at hr
     · cases hr
     · rename_i zv hz
       obtain ⟨hb,hr⟩:=cond_run hr
       simp only [Bool.and_eq_true] at hb
       obtain ⟨⟨b1,b2⟩,b3⟩:=hb
       have b1:=Nat.eq_of_beq_eq_true b1
       have b2:=blt_lt b2
       have b3:=Nat.le_of_ble_eq_true b3
       split at hr
       · rename_i id2 n m cap2 zz
         obtain ⟨hn,hr⟩:=cond_run hr
         have hn:=Nat.eq_of_beq_eq_true hn
         have harg:∀ {ty:TypeId} {cs:List SV},look h id2=some (.cells ty cs)→∃ cp,den ρ (.slc id2 n 0 m cap2) = .slice (some ⟨(ρ id2).blk,0,none⟩) m cp:=by
          intro ty cs hl
          obtain ⟨k1,k2,_⟩:=c.hr.ok _ _ hl
          obtain ⟨cp,hd⟩:=den_slc k1 n 0 m cap2
          exact ⟨cp,by rw [hd,k2,Nat.zero_mul]⟩
         split at hr
         · split at hr
           · cases hr
           · rename_i sc hsc0
             obtain ⟨hb,hr⟩:=cond_run hr
             simp only [Bool.and_eq_true] at hb
             have hsc:=Nat.eq_of_beq_eq_true hb.1
             have hm9:=Nat.le_of_ble_eq_true hb.2
             obtain ⟨ty2,cs2,xs,ids',hl2,hdx,hm,hr⟩:=appX_run hr
             cases ret_run (h:=h) hr
             obtain ⟨f1,f2⟩:=decRows_flat ρ hdx
             obtain ⟨cp,hcp⟩:=harg hl2
             have hokn:OK ρ w ⟨0,0,0,0,true,none⟩ (.row e sc ([]:List (TT sc))):=⟨rfl,.inl ⟨rfl,rfl,rfl,rfl⟩⟩
             obtain ⟨L',w',r1,r2,r3,r4,r5,r6,r7,r8⟩:=append_core (ty:=o.type) hu hi hz b1 b2 b3 hsc (l:=([]:List (TT sc))) (xs:=xs) (by rw [f2];simp;omega) (by omega) hokn ⟨(ρ id2).blk,0,none⟩ cp (by rw [← f1];exact lit_cells (c:=c) hl2)
             have hrun:=key (rowVal L') w' (by rw [hcp,← f2];exact r1)
             have hfresh:L'.blk=w.heap.size∧∀ b,b<w.heap.size→w'.heap[b]? = w.heap[b]?:=by
              rcases r8 with ⟨q,_⟩|q
              · cases q
              · exact q
             have hkeep:Keeps B w w':=⟨r4,r5,r6,r7,fun k hk=>hfresh.2 k (by
              rcases Nat.lt_or_ge k w.heap.size with h'|h'
              · exact h'
              · exact absurd (c.up k h') hk)⟩
             have mk:=made_new (s:=.all lo) (o:=.row e sc xs) (L:=L') c.hr c.hf (show lo<lo+wide by unfold wide;omega) c.up hkeep hfresh.2 rfl (fun _=>by rw [hfresh.1];exact Nat.le_refl _) (by simpa using r3 (setRho ρ lo L'))
             refine Gives.value (w':=w') (v:=den (setRho ρ lo L') (.all lo)) ?_ ⟨_,mk⟩
             rw [hrun]
             simp only [den,setRho_same]
             rfl
         · rename_i id
           obtain ⟨ob,ids',hl,hr⟩:=obj_run hr
           split at hr
           · rename_i e' sc l
             obtain ⟨hb,hr⟩:=cond_run hr
             simp only [Bool.and_eq_true] at hb
             have he:=Nat.eq_of_beq_eq_true hb.1
             have hsc:=Nat.eq_of_beq_eq_true hb.2
             subst he
             obtain ⟨ty2,cs2,xs,ids'',hl2,hdx,hm,hr⟩:=appX_run hr
             obtain ⟨h9,hr⟩:=br_run (h:=h) hr
             cases ret_run (h:=h) hr
             have h9:=Nat.le_of_ble_eq_true h9
             obtain ⟨f1,f2⟩:=decRows_flat ρ hdx
             obtain ⟨cp,hcp⟩:=harg hl2
             obtain ⟨L',w',r1,r2,r3,r4,r5,r6,r7,r8⟩:=append_core (ty:=o.type) hu hi hz b1 b2 b3 hsc h9 (by omega) (c.hr.ok _ _ hl) ⟨(ρ id2).blk,0,none⟩ cp (by rw [← f1];exact lit_cells (c:=c) hl2)
             have hrun:=key (rowVal L') w' (by rw [hcp,← f2];exact r1)
             have mk:=made_row (s:=.all lo) c.hr c.hf (show lo<lo+wide by unfold wide;omega) c.up hl rfl (o':=.row e' sc (l ++ xs)) rfl r4 r5 r6 r7 r2 r3 (by
              rcases r8 with ⟨q1,_,q2,q3⟩|q
              · exact .inl ⟨q1,q2,q3⟩
              · exact .inr q)
             refine Gives.value (w':=w') (v:=den (setRho ρ lo L') (.all lo)) ?_ ⟨_,mk⟩
             rw [hrun]
             simp only [den,setRho_same]
             rfl
           · cases hr
         · rename_i id n' len cap zz2
           split at hr
           · cases hr
           · rename_i sc hsc0
             have hr2:=cond_run hr
             clear hr
             obtain ⟨hb,hr⟩:=hr2
             simp only [Bool.and_eq_true] at hb
             obtain ⟨⟨⟨hb1,hb2⟩,hb3⟩,hb4⟩:=hb
             have hsc:=Nat.eq_of_beq_eq_true hb1
             have hn':=Nat.eq_of_beq_eq_true hb2
             have hlc:=Nat.eq_of_beq_eq_true hb3
             have hm9:=Nat.le_of_ble_eq_true hb4
             subst hlc
             obtain ⟨ob,ids',hl,hr⟩:=obj_run hr
             split at hr
             · rename_i ty1 cs1
               split at hr
               · cases hr
               · rename_i l hdl
                 obtain ⟨ty2,cs2,xs,ids'',hl2,hdx,hm,hr⟩:=appX_run hr
                 cases ret_run (h:=h) hr
                 obtain ⟨g1,g2⟩:=decRows_flat ρ hdl
                 obtain ⟨f1,f2⟩:=decRows_flat ρ hdx
                 obtain ⟨cp,hcp⟩:=harg hl2
                 obtain ⟨k1,k2,k3⟩:=c.hr.ok _ _ hl
                 -- the element's type tells nothing here: the block's cells do
                 have holds:∀ j v,(flat sc l)[j]? = some v→w.cell? ((⟨(ρ id).blk,0,none⟩:Addr).add j)=some v:=by rw [← g1];exact lit_cells (c:=c) hl
                 have hfl:(flat sc xs).length=m * i.size:=by rw [flat_length,f2,hsc]
                 have hfll:(flat sc l).length=len * i.size:=by rw [flat_length,g2,hsc]
                 have hb48:(len+m) * i.bytes≤140737488355328:=Nat.le_trans (Nat.mul_le_mul hm9 b3) (by decide)
                 have hgr:=run_append_grow (P:=P) w t o.type e i zv hu hi hz ⟨(ρ id).blk,0,none⟩ len len (flat sc l) hfll holds ⟨(ρ id2).blk,0,none⟩ m cp (flat sc xs) hfl (by rw [← f1];exact lit_cells (c:=c) hl2) (by omega) (by omega) (growslice_fits (by omega) hb48)
                 have hge:=grownCap_ge w (len+m) len e
                 have hd:den ρ (.slc id n' 0 len (some len)) = .slice (some ⟨(ρ id).blk,0,none⟩) len len:=by
                  simp only [den,k1,k2,Bool.false_eq_true,if_false,Nat.zero_mul,Nat.add_zero]
                 have hrun:=key _ _ (by rw [hd,hcp];exact hgr)
                 obtain ⟨w',hw'⟩:∃ w',w'=w.drew.alloc (.cells ((flat sc l).toArray ++ (flat sc xs).toArray ++ Builtin.zeroCells zv.cells (grownCap w (len+m) len e - (len+m))) e):=⟨_,rfl⟩
                 rw [← hw'] at hrun
                 have hold:∀ b,b<w.heap.size→w'.heap[b]? = w.heap[b]?:=fun b hb=>by rw [hw'];exact Below.heap_alloc w.drew _ b hb
                 have hkeep:Keeps B w w':=⟨by rw [hw'];rfl,by rw [hw'];rfl,by rw [hw'];rfl,by rw [hw'];simp,fun k hk=>hold k (by
                  rcases Nat.lt_or_ge k w.heap.size with h'|h'
                  · exact h'
                  · exact absurd (c.up k h') hk)⟩
                 have hokr:OK (setRho ρ lo ⟨w.heap.size,0,len+m,grownCap w (len+m) len e,false,none⟩) w' ⟨w.heap.size,0,len+m,grownCap w (len+m) len e,false,none⟩ (.row e sc (l ++ xs)):=by
                  refine ⟨by simp [g2,f2],.inr ⟨rfl,rfl,by simp [g2,f2];exact hge,_,by rw [hw'];exact heap_alloc_new w.drew _,?_,?_⟩⟩
                  · simp only [Array.size_append,List.size_toArray,size_zeroCells,hfl,hfll,b1,hsc,← Nat.add_mul]
                    congr 1;omega
                  · have hfa:flat sc (l ++ xs)=flat sc l ++ flat sc xs:=by simp [flat]
                    have:(l ++ xs).length * sc.length=(flat sc l ++ flat sc xs).length:=by rw [← hfa,flat_length]
                    rw [Array.toList_append,Array.toList_append,this,hfa]
                    exact List.take_left
                 have mk:=made_new (s:=.all lo) (o:=.row e sc (l ++ xs)) c.hr c.hf (show lo<lo+wide by unfold wide;omega) c.up hkeep hold rfl (fun _=>Nat.le_refl _) hokr
                 refine Gives.value (w':=w') (v:=den (setRho ρ lo ⟨w.heap.size,0,len+m,grownCap w (len+m) len e,false,none⟩) (.all lo)) ?_ ⟨_,mk⟩
                 rw [hrun]
                 simp only [den,setRho_same]
                 rfl
             · cases hr
         · cases hr
       · split at hr
         · obtain ⟨ob,ids',hl,hr⟩:=obj_run hr
           split at hr
           · exact appA_sound ho hc ht hx hs hsx c hu hi hz b1 b2 b3 (c.hr.ok _ _ hl) hr
           · exact appA_sound ho hc ht hx hs hsx c hu hi hz b1 b2 b3 (arg_of_row (c.hr.ok _ _ hl)) hr
           · cases hr
         · exact appR_sound ho hc ht hx hs hsx c hu hi hz b1 b2 b3 hr
         · cases hr
       · cases hr
 · cases hr
end
end Go.Proofs.Ytlfkfajodnkkhaa.Ax
namespace Go.Proofs.Ytlfkfajodnkkhaa.Ax
open Go Go.RowKit
set_option linter.unusedVariables false
set_option linter.unusedSimpArgs false
section
variable {P:Program} {C:FuncId→Option Con} {B:Nat→Prop} {ρ:Rho} {h:Hp} {a:Act} {w:World} {ev:Operand→Option SV} {lo:Nat} {o:Oper} {out:Out} {ids:List Nat}
theorem freeL_append {lo hi:Nat} {l m:List SV} (h1:freeL lo hi l=true) (h2:freeL lo hi m=true):freeL lo hi (l ++ m)=true:=by
 rw [freeL_mem] at *
 intro s hs
 rcases List.mem_append.1 hs with hs|hs
 · exact h1 s hs
 · exact h2 s hs
theorem call_sound {cl:Call} (hC:∀ g φ,C g=some φ→ConOk P B g φ) (ho:o.op = .call cl) (c:Cx B ρ h a w ev lo) (hr:(eff P C o ev lo).run h=some (out,ids)):Goal P B ρ h a w lo o out:=by
 unfold eff at hr
 rw [ho] at hr
 simp only at hr
 unfold callS at hr
 cases hl:evL ev cl.args.toList with
 | none=>rw [hl] at hr;cases hr
 | some args =>
  rw [hl] at hr
  simp only at hr
  obtain ⟨hd,hfl⟩:=evL_den c hl
  have hargs:cl.args.map a.eval=(denL ρ args).toArray:=by apply Array.ext';simpa using hd
  cases hc:cl.callee with
  | value f =>
   rw [hc] at hr
   simp only at hr
   split at hr
   · rename_i g fi ca hf
     cases hg:C g with
     | none=>rw [hg] at hr;cases hr
     | some φ =>
      rw [hg] at hr
      simp only at hr
      obtain ⟨he,hff⟩:=c.ev _ _ hf
      simp only [SV.free,Bool.and_eq_true] at hff
      have hfree:=freeL_append (freeL_append hff.1 hfl) hff.2
      have happ:(denL ρ fi).toArray ++ (denL ρ args).toArray ++ (denL ρ ca).toArray=(denL ρ (fi ++ args ++ ca)).toArray:=by
       apply Array.ext'
       simp [denL_map]
      have hexec:execOp a.eval o=callFunc g (denL ρ (fi ++ args ++ ca)).toArray:=by
       unfold execOp
       rw [ho]
       show (resolve a.eval cl o.type).bind _=_
       unfold resolve
       rw [hc]
       simp only [he,den,Deferred.ofValue,hargs]
       show invoke (.fn (.func g) (denL ρ ca).toArray) ((denL ρ fi).toArray ++ (denL ρ args).toArray)=_
       show callFunc g ((denL ρ fi).toArray ++ (denL ρ args).toArray ++ (denL ρ ca).toArray)=_
       rw [happ]
      rcases hC g φ hg _ ρ h w lo out ids hr c.hr c.hf hfree c.up with ⟨h1,h2⟩|⟨v,w',h1,h2⟩
      · exact Gives.enter (by rw [hexec];exact h1) h2
      · exact Gives.value (by rw [hexec];exact h1) h2
   · cases hr
  | invoke x m=>rw [hc] at hr;cases hr
  | builtin b =>
   rw [hc] at hr
   simp only at hr
   cases b<;>try (cases hr;done)
   case len =>
    simp only at hr
    split at hr
    · rename_i t ht
      split at hr
      · rename_i x
        have ha1:cl.argTypes = #[t]:=by apply Array.ext';exact ht
        cases hx:cl.args.toList with
        | nil=>rw [hx] at hl;cases hl
        | cons y ys =>
         rw [hx] at hl
         simp only [evL] at hl
         cases hy:ev y with
         | none=>rw [hy] at hl;cases hl
         | some s =>
          rw [hy] at hl
          cases hys:evL ev ys with
          | none=>rw [hys] at hl;cases hl
          | some r =>
           rw [hys] at hl
           simp only [Option.some.injEq,List.cons.injEq] at hl
           obtain ⟨rfl,rfl⟩:=hl
           cases ys with
           | nil=>exact len_sound ho hc ha1 (by apply Array.ext';exact hx) hy c hr
           | cons z zs =>
            simp only [evL] at hys
            split at hys
            · cases hys
            · split at hys<;>cases hys
      · cases hr
    · cases hr
   case copy =>
    simp only at hr
    split at hr
    · rename_i t t' ht
      split at hr
      · rename_i s x
        have ha1:cl.argTypes = #[t,t']:=by apply Array.ext';exact ht
        cases hx:cl.args.toList with
        | nil=>rw [hx] at hl;cases hl
        | cons y ys =>
         rw [hx] at hl
         simp only [evL] at hl
         cases hy:ev y with
         | none=>rw [hy] at hl;cases hl
         | some s1 =>
          rw [hy] at hl
          cases ys with
          | nil=>simp only [evL] at hl;cases hl
          | cons y2 ys =>
           simp only [evL] at hl
           cases hy2:ev y2 with
           | none=>rw [hy2] at hl;cases hl
           | some s2 =>
            rw [hy2] at hl
            simp only at hl
            cases ys with
            | nil =>
             simp only [evL,Option.some.injEq,List.cons.injEq,and_true] at hl
             obtain ⟨rfl,rfl⟩:=hl
             exact copy_sound ho hc ha1 (by apply Array.ext';exact hx) hy hy2 c hr
            | cons y3 ys =>
             exfalso
             simp only [evL] at hl
             cases hy3:ev y3 with
             | none=>rw [hy3] at hl;cases hl
             | some s3 =>
              rw [hy3] at hl
              cases hys:evL ev ys with
              | none=>rw [hys] at hl;cases hl
              | some r=>rw [hys] at hl;simp at hl
      · cases hr
    · cases hr
   case append =>
    simp only at hr
    split at hr
    · rename_i t t' ht
      have hr2:=cond_run hr
      clear hr
      obtain ⟨htt,hr⟩:=hr2
      have htt:=Nat.eq_of_beq_eq_true htt
      subst htt
      split at hr
      · rename_i s x
        have ha1:cl.argTypes = #[t,t]:=by apply Array.ext';exact ht
        cases hx:cl.args.toList with
        | nil=>rw [hx] at hl;cases hl
        | cons y ys =>
         rw [hx] at hl
         simp only [evL] at hl
         cases hy:ev y with
         | none=>rw [hy] at hl;cases hl
         | some s0 =>
          rw [hy] at hl
          cases ys with
          | nil=>simp only [evL] at hl;cases hl
          | cons y2 ys =>
           simp only [evL] at hl
           cases hy2:ev y2 with
           | none=>rw [hy2] at hl;cases hl
           | some s2 =>
            rw [hy2] at hl
            simp only at hl
            cases ys with
            | nil =>
             simp only [evL,Option.some.injEq,List.cons.injEq,and_true] at hl
             obtain ⟨rfl,rfl⟩:=hl
             exact append_sound ho hc ha1 (by apply Array.ext';exact hx) hy hy2 c hr
            | cons y3 ys =>
             exfalso
             simp only [evL] at hl
             cases hy3:ev y3 with
             | none=>rw [hy3] at hl;cases hl
             | some s3 =>
              rw [hy3] at hl
              cases hys:evL ev ys with
              | none=>rw [hys] at hl;cases hl
              | some r=>rw [hys] at hl;simp at hl
      · cases hr
    · cases hr
   case max =>
    simp only at hr
    split at hr
    · have:=ret_run (h:=h) hr;subst this
      refine goal_pure c ?_
      unfold execOp
      simp only [ho,resolve,hc,hargs,Sem.run_bind,Sem.run_pure,Result.andThen_ok,invoke,builtin,Builtin.max_,denL,den,List.foldlM,Builtin.max2,mx]
    · cases hr
   case min =>
    simp only at hr
    split at hr
    · have:=ret_run (h:=h) hr;subst this
      refine goal_pure c ?_
      unfold execOp
      simp only [ho,resolve,hc,hargs,Sem.run_bind,Sem.run_pure,Result.andThen_ok,invoke,builtin,Builtin.min_,denL,den,List.foldlM,Builtin.min2,mn]
    · cases hr
theorem flat_one (s:Sc) (n:Nat) (z:s.T):flat [s] (List.replicate n z)=List.replicate n (enc1 s z):=by
 induction n with
 | zero=>rfl
 | succ n ih =>
  simp only [flat] at ih
  show enc [s] z ++ ((List.replicate n z:List (TT [s])).map (enc [s])).flatten=enc1 s z :: List.replicate n (enc1 s z)
  exact congrArg (enc1 s z :: ·) ih
theorem made_one (v:Value) (n:Nat):(madeCells #[v] n).toList=List.replicate n v:=by
 apply List.ext_getElem
 · simp [madeCells]
 · intro i h1 h2
   simp [madeCells,Nat.mod_one]
theorem made_get (z:Array Value) (n j:Nat):(madeCells z n).toList[j]? = if j<n then some z[j % z.size]! else none:=by
 unfold madeCells
 rw [Array.getElem?_toList,Array.getElem?_map]
 by_cases h:j<n
 · rw [if_pos h,Array.getElem?_range,if_pos h];rfl
 · rw [if_neg h,Array.getElem?_range,if_neg h];rfl
theorem made_rep (z:Array Value) (hp:0<z.size):∀ n:Nat,(madeCells z (n * z.size)).toList=(List.replicate n z.toList).flatten
 | 0=>by simp [madeCells]
 | n+1=>by
  rw [List.replicate_succ,List.flatten_cons,← made_rep z hp n]
  apply List.ext_getElem?
  intro j
  rw [made_get]
  by_cases h:j<z.size
  · rw [List.getElem?_append_left (by rw [Array.length_toList];exact h),if_pos (by rw [Nat.succ_mul];omega),Nat.mod_eq_of_lt h,Array.getElem?_toList,getElem!_pos z j h,Array.getElem?_eq_getElem h]
  · rw [List.getElem?_append_right (by rw [Array.length_toList];omega),Array.length_toList,made_get]
    have e:(j - z.size) % z.size=j % z.size:=by
     conv=>rhs;rw [show j=(j - z.size)+z.size by omega,Nat.add_mod_right]
    rw [e,Nat.succ_mul]
    by_cases g:j<n * z.size+z.size
    · rw [if_pos g,if_pos (by omega)]
    · rw [if_neg g,if_neg (by omega)]
theorem makeN_sound {t:TypeId} {x y:Operand} (ho:o.op = .makeSlice t x y) (c:Cx B ρ h a w ev lo) {kl kc:IntKind} {l cc:Int} (hsx:ev x=some (.v (.int kl l))) (hsy:ev y=some (.v (.int kc cc))) {e:TypeId} (hu:P.underlying t=some (.slice e)) {i:TypeInfo} (hi:P.info? e=some i) {zv:Value} (hz:i.zero=some zv) {sc:List Sc}
 (hr:(makeN e i.size i.bytes zv.cells.toList sc l cc lo).run h=some (out,ids)):Goal P B ρ h a w lo o out:=by
 obtain ⟨hex,_⟩:=c.ev x _ hsx
 obtain ⟨hey,_⟩:=c.ev y _ hsy
 unfold makeN at hr
 split at hr
 · cases hr
 rename_i z hzd
 obtain ⟨hb,hr⟩:=cond_run hr
 obtain ⟨hl,hr⟩:=br_run (h:=h) hr
 obtain ⟨hc,hr⟩:=br_run (h:=h) hr
 have:=ret_run (h:=h) hr
 subst this
 simp only [Bool.and_eq_true,decide_eq_true_eq] at hb hl
 obtain ⟨b1,b2,b3,b4⟩:=hb
 have b1:=Nat.eq_of_beq_eq_true b1
 have b2:=Nat.le_of_ble_eq_true b2
 have b3:=Nat.eq_of_beq_eq_true b3
 have b4:=blt_lt b4
 have hc:l=cc:=of_decide_eq_true hc
 subst hc
 have hzc:zv.cells.toList=enc sc z:=by
  have:=dec_enc ρ sc _ z hzd
  rwa [map_v] at this
 have hzs:zv.cells.size=sc.length:=by rw [← Array.length_toList];exact b3
 have hbytes:(i.bytes:Int) * l≤281474976710656:=by
  have:(i.bytes:Int) * l≤140000 * 1000000000:=Int.mul_le_mul (by omega) hl.2 hl.1 (by omega)
  omega
 have hmk:=run_make w t e i zv hu hi hz kl kc l l hl.1 (Int.le_refl _) hbytes (by omega)
 rw [b1,← hzs] at hmk
 have hlen:(List.replicate l.toNat z:List (TT sc)).length=l.toNat:=List.length_replicate
 obtain ⟨w',hw'⟩:∃ w',w'=w.alloc (.cells (madeCells zv.cells (l.toNat * zv.cells.size)) e):=⟨_,rfl⟩
 rw [← hw'] at hmk
 have hrun:(execOp a.eval o).run P w = .ok (.value (.slice (some ⟨w.heap.size,0,none⟩) l.toNat l.toNat)) w':=by
  unfold execOp
  simp only [ho,hex,hey,den,Sem.run_bind,hmk,Result.andThen_ok,Sem.run_pure]
 have hold:∀ b,b<w.heap.size→w'.heap[b]? = w.heap[b]?:=fun b hb=>by rw [hw'];exact Below.heap_alloc w _ b hb
 have hfl:(flat sc (List.replicate l.toNat z))=(madeCells zv.cells (l.toNat * zv.cells.size)).toList:=by
  rw [made_rep zv.cells (by omega),hzc]
  unfold flat
  rw [List.map_replicate]
 have m:=made_new (B:=B) (lo:=lo) (hi:=lo+wide) (s:=.all lo) (o:=.row e sc (List.replicate l.toNat z)) (L:=⟨w.heap.size,0,l.toNat,l.toNat,false,none⟩) c.hr c.hf (by unfold wide;omega) c.up (w':=w')
  ⟨by rw [hw'];rfl,by rw [hw'];rfl,by rw [hw'];rfl,by rw [hw'];simp,fun b hb=>hold b (by
   rcases Nat.lt_or_ge b w.heap.size with h'|h'
   · exact h'
   · exact absurd (c.up b h') hb)⟩
  hold rfl (fun _=>Nat.le_refl _) ⟨hlen.symm,.inr ⟨rfl,rfl,Nat.le_of_eq hlen,_,by rw [hw'];exact heap_alloc_new w _,by rw [size_madeCells,hzs],by
   rw [← hfl]
   refine List.take_of_length_le ?_
   rw [flat_length,hlen];exact Nat.le_refl _⟩⟩
 refine Gives.value (w':=w') (v:=den (setRho ρ lo ⟨w.heap.size,0,l.toNat,l.toNat,false,none⟩) (.all lo)) ?_ ⟨_,m⟩
 rw [hrun]
 simp only [den,setRho_same]
 rfl
theorem makeS_sound {t:TypeId} {x y:Operand} (ho:o.op = .makeSlice t x y) (c:Cx B ρ h a w ev lo) (hr:(eff P C o ev lo).run h=some (out,ids)):Goal P B ρ h a w lo o out:=by
 unfold eff at hr
 rw [ho] at hr
 obtain ⟨sx,hsx,hr⟩:=w1_run hr
 obtain ⟨sy,hsy,hr⟩:=w1_run hr
 obtain ⟨hex,_⟩:=c.ev x sx hsx
 obtain ⟨hey,_⟩:=c.ev y sy hsy
 unfold makeS at hr
 obtain ⟨kl,l,rfl⟩:∃ kl l,sx = .v (.int kl l):=by
  cases sx with
  | v vx=>cases vx with
   | int kl l=>exact ⟨kl,l,rfl⟩
   | _=>cases hr
  | _=>cases hr
 obtain ⟨kc,cc,rfl⟩:∃ kc cc,sy = .v (.int kc cc):=by
  cases sy with
  | v vy=>cases vy with
   | int kc cc=>exact ⟨kc,cc,rfl⟩
   | _=>cases hr
  | _=>cases hr
 simp only at hr
 split at hr
 case h_2=>cases hr
 rename_i e hu
 split at hr
 · cases hr
 rename_i i hi
 split at hr
 · cases hr
 rename_i zv hz
 split at hr
 · cases hr
 rename_i sc hsc
 split at hr
 · cases hr
 rename_i s sc
 split at hr
 · exact makeN_sound ho c hsx hsy hu hi hz hr
 split at hr
 · cases hr
 rename_i z hzd
 obtain ⟨hb,hr⟩:=cond_run hr
 obtain ⟨hl,hr⟩:=br_run hr
 obtain ⟨hc,hr⟩:=br_run hr
 have:=ret_run (h:=h) hr
 subst this
 simp only [Bool.and_eq_true,decide_eq_true_eq] at hb hl
 obtain ⟨b1,b2,b3⟩:=hb
 have b1:=Nat.eq_of_beq_eq_true b1
 have b2:=Nat.le_of_ble_eq_true b2
 have b3:=Nat.eq_of_beq_eq_true b3
 have hc:l=cc:=of_decide_eq_true hc
 subst hc
 have hz1:zv=enc1 s z:=decS_enc1 ρ (v:=.v zv) hzd
 have hzc:zv.cells = #[enc1 s z]:=by
  subst hz1
  cases s<;>rfl
 have hbytes:(i.bytes:Int) * l≤281474976710656:=by
  have:(i.bytes:Int) * l≤140000 * 1000000000:=Int.mul_le_mul (by omega) hl.2 hl.1 (by omega)
  omega
 have hmk:=run_make w t e i zv hu hi hz kl kc l l hl.1 (Int.le_refl _) hbytes (by omega)
 rw [hzc,b1,Nat.mul_one] at hmk
 have hlen:(List.replicate l.toNat z:List (TT [s])).length=l.toNat:=List.length_replicate
 obtain ⟨w',hw'⟩:∃ w',w'=w.alloc (.cells (madeCells #[enc1 s z] l.toNat) e):=⟨_,rfl⟩
 rw [← hw'] at hmk
 have hrun:(execOp a.eval o).run P w = .ok (.value (.slice (some ⟨w.heap.size,0,none⟩) l.toNat l.toNat)) w':=by
  unfold execOp
  simp only [ho,hex,hey,den,Sem.run_bind,hmk,Result.andThen_ok,Sem.run_pure]
 have hold:∀ b,b<w.heap.size→w'.heap[b]? = w.heap[b]?:=fun b hb=>by rw [hw'];exact Below.heap_alloc w _ b hb
 have m:=made_new (B:=B) (lo:=lo) (hi:=lo+wide) (s:=.all lo) (o:=.row e [s] (List.replicate l.toNat z)) (L:=⟨w.heap.size,0,l.toNat,l.toNat,false,none⟩) c.hr c.hf (by unfold wide;omega) c.up (w':=w')
  ⟨by rw [hw'];rfl,by rw [hw'];rfl,by rw [hw'];rfl,by rw [hw'];simp,fun b hb=>hold b (by
   rcases Nat.lt_or_ge b w.heap.size with h'|h'
   · exact h'
   · exact absurd (c.up b h') hb)⟩
  hold rfl (fun _=>Nat.le_refl _) ⟨hlen.symm,.inr ⟨rfl,rfl,Nat.le_of_eq hlen,_,by rw [hw'];exact heap_alloc_new w _,by simp [size_madeCells],by
   rw [made_one]
   refine Eq.trans ?_ (flat_one s l.toNat z).symm
   refine List.take_of_length_le ?_
   rw [List.length_replicate]
   exact Nat.le_of_eq ((Nat.mul_one _).trans hlen).symm⟩⟩
 refine Gives.value (w':=w') (v:=den (setRho ρ lo ⟨w.heap.size,0,l.toNat,l.toNat,false,none⟩) (.all lo)) ?_ ⟨_,m⟩
 rw [hrun]
 simp only [den,setRho_same]
 rfl
theorem eff_cx (hC:∀ g φ,C g=some φ→ConOk P B g φ) (c:Cx B ρ h a w ev lo) (hr:(eff P C o ev lo).run h=some (out,ids)):Goal P B ρ h a w lo o out:=by
 cases ho:o.op with
 | move x=>exact move_sound (.inl ho) c (by unfold eff at hr;rw [ho] at hr;exact hr)
 | assign x=>exact move_sound (.inr ho) c (by unfold eff at hr;rw [ho] at hr;exact hr)
 | pick=>exact pick_sound ho c hr
 | box=>exact box_sound ho c hr
 | alloc=>exact alloc_sound ho c hr
 | build=>exact build_sound ho c hr
 | buildSlice=>exact buildSlice_sound ho c hr
 | load=>exact load_sound ho c hr
 | store=>exact store_sound ho c hr
 | makeSlice=>exact makeS_sound ho c hr
 | nilCheck=>exact nil_sound ho c hr
 | binOp=>exact bin_sound ho c hr
 | unOp=>exact un_sound ho c hr
 | convert=>exact conv_sound ho c hr
 | makeFunc=>exact func_sound ho c hr
 | fieldAddr=>exact fieldAddr_sound ho c hr
 | field=>exact field_sound ho c hr
 | indexAddr=>exact indexAddr_sound ho c hr
 | index=>exact index_sound ho c hr
 | slice=>exact slice_sound ho c hr
 | makeMap=>exact makeMap_sound ho c hr
 | lookup=>exact lookup_sound ho c hr
 | mapUpdate=>exact mapUpdate_sound ho c hr
 | extract=>exact extract_sound ho c hr
 | call=>exact call_sound hC ho c hr
 | _=>(unfold eff at hr;rw [ho] at hr;cases hr)
theorem evL_congr {ev ev':Operand→Option SV} : ∀ {l:List Operand},(∀ x∈l,ev x=ev' x)→evL ev l=evL ev' l
 | [],_=>rfl
 | x :: l,h=>by simp only [evL,h x (by simp),evL_congr (l:=l) (fun y hy=>h y (by simp [hy]))]
theorem evParts_congr {ev ev':Operand→Option SV} : ∀ {l:List (Nat × Operand)},(∀ p∈l,ev p.2=ev' p.2)→evParts ev l=evParts ev' l
 | [],_=>rfl
 | (i,x) :: l,h=>by
  have h1:=h (i,x) (by simp)
  simp only at h1
  simp only [evParts,h1,evParts_congr (l:=l) (fun y hy=>h y (by simp [hy]))]
theorem eff_loc (P:Program) (C:FuncId→Option Con) (o:Oper) (ev ev':Operand→Option SV) (fr:Nat) (h:∀ x∈o.op.operands,ev x=ev' x):eff P C o ev fr=eff P C o ev' fr:=by
 unfold eff
 cases ho:o.op with
 | call c =>
  rw [ho] at h
  simp only [Op.operands,Call.operands] at h
  have ha:evL ev c.args.toList=evL ev' c.args.toList:=evL_congr fun x hx=>h x (Array.mem_append.2 (.inr (by simpa using hx)))
  simp only [callS,ha]
  cases hc:c.callee with
  | value f =>
   rw [hc] at h
   have hf:ev f=ev' f:=h f (by simp)
   simp only [hf]
  | _=>rfl
 | build t ps =>
  rw [ho] at h
  simp only [Op.operands] at h
  simp only [evParts_congr (ev:=ev) (ev':=ev') (l:=ps.toList) (fun p hp=>h p.2 (by simpa using ⟨p.1,by simpa using hp⟩))]
 | buildSlice t n ps =>
  rw [ho] at h
  simp only [Op.operands] at h
  simp only [evParts_congr (ev:=ev) (ev':=ev') (l:=ps.toList) (fun p hp=>h p.2 (by simpa using ⟨p.1,by simpa using hp⟩))]
 | makeFunc fn fi ca =>
  rw [ho] at h
  simp only [Op.operands] at h
  simp only [evL_congr (ev:=ev) (ev':=ev') (l:=fi.toList) (fun x hx=>h x (by simp at hx;simp [hx])),evL_congr (ev:=ev) (ev':=ev') (l:=ca.toList) (fun x hx=>h x (by simp at hx;simp [hx]))]
 | move x=>rw [ho] at h;simp only [h x (by simp [Op.operands])]
 | assign x=>rw [ho] at h;simp only [h x (by simp [Op.operands])]
 | pick x y z=>rw [ho] at h;simp only [h x (by simp [Op.operands]),h y (by simp [Op.operands]),h z (by simp [Op.operands])]
 | box t x=>rw [ho] at h;simp only [h x (by simp [Op.operands])]
 | load t x=>rw [ho] at h;simp only [h x (by simp [Op.operands])]
 | store t x y=>rw [ho] at h;simp only [h x (by simp [Op.operands]),h y (by simp [Op.operands])]
 | makeSlice t x y=>rw [ho] at h;simp only [h x (by simp [Op.operands]),h y (by simp [Op.operands])]
 | nilCheck x=>rw [ho] at h;simp only [h x (by simp [Op.operands])]
 | binOp op t x y t'=>rw [ho] at h;simp only [h x (by simp [Op.operands]),h y (by simp [Op.operands])]
 | unOp op t x=>rw [ho] at h;simp only [h x (by simp [Op.operands])]
 | convert s d x=>rw [ho] at h;simp only [h x (by simp [Op.operands])]
 | fieldAddr s x f=>rw [ho] at h;simp only [h x (by simp [Op.operands])]
 | field s x f=>rw [ho] at h;simp only [h x (by simp [Op.operands])]
 | indexAddr t x y=>rw [ho] at h;simp only [h x (by simp [Op.operands]),h y (by simp [Op.operands])]
 | index t x y=>rw [ho] at h;simp only [h x (by simp [Op.operands]),h y (by simp [Op.operands])]
 | slice t x l u m =>
  rw [ho] at h
  cases l<;>cases u<;>cases m<;>first|rfl|(simp only [h x (by simp [Op.operands])];first|rfl|(rename_i u m;simp only [h u (by simp [Op.operands]),h m (by simp [Op.operands])])|(rename_i u;simp only [h u (by simp [Op.operands])]))
 | extract x i=>rw [ho] at h;simp only [h x (by simp [Op.operands])]
 | lookup t x y k=>rw [ho] at h;simp only [h x (by simp [Op.operands]),h y (by simp [Op.operands])]
 | mapUpdate t x y z=>rw [ho] at h;simp only [h x (by simp [Op.operands]),h y (by simp [Op.operands]),h z (by simp [Op.operands])]
 | _=>rfl
theorem evo_free {lo hi:Nat} {σ:St} (hf:Fresh lo hi σ) (x:Operand) (s:SV) (hx:evo σ x=some s):s.free lo hi=true:=by
 cases x with
 | tmp t=>exact hf.sl t s hx
 | const v =>
  cases hx
  cases v<;>first|rfl|exact freeL_map_v _ _ _
 | global g=>cases hx
 | func f=>cases hx;rfl
theorem eff_sound {w0:Base} {n:Nat} (hC:∀ g φ,C g=some φ→ConOk P B g φ):Sound (eff P C) P B w0 n :=
 ⟨eff_loc P C,fun o σ ρ a w lo out ids hr hR hf=>eff_cx hC ⟨fun x s hx=>⟨hR.eval x s hx,evo_free hf x s hx⟩,hR.hr,hf.hp,fun b hb=>hR.up b (Nat.le_trans hR.ks.size hb)⟩ hr⟩
end
end Go.Proofs.Ytlfkfajodnkkhaa.Ax
namespace Go
theorem run_callFunc_enter' {P : Program} {f : FuncId} {fn : Func} {c : Code} (hf : P.funcs[f]? = some fn) (hname : (fn.name == "runtime.NumGoroutine") = false) (hb : fn.body = some c) (args : Array Value) (w : World) :
 (callFunc f args).run P w = .ok (.enter f args) w:=by
 have h1 : fn.name ≠ "runtime.NumGoroutine" := by simpa using hname
 simp [callFunc,hf,h1,hb]
end Go
namespace Go.Proofs.Ytlfkfajodnkkhaa.Ax
open Go Go.RowKit
set_option linter.unusedVariables false
set_option linter.unusedSimpArgs false
def resS (P:Program) (σ:St):List ResultVar→Option (List SV)
 | []=>some []
 | .tmp t :: l=>match look σ.sl t with
  | none=>none
  | some s=>match resS P σ l with
   | none=>none
   | some r=>some (s :: r)
 | .cell a t :: l=>match look σ.sl a with
  | some (.ptr id off)=>match look σ.hp id with
   | some (.cells _ c)=>match aggT P t with
    | none=>none
    | some g=>match szT P t with
     | none=>none
     | some z=>match part1 c g off z with
      | none=>none
      | some s=>match resS P σ l with
       | none=>none
       | some r=>some (s :: r)
   | _=>none
  | _=>none
def resV:List SV→SV
 | [s]=>s
 | l=>.tup l
theorem run_asAddr {P:Program} (a:Addr) (w:World):(asAddr (.pointer (some a))).run P w = .ok a w:=rfl
def resOne (a:Act):ResultVar→Sem Value
 | .tmp t=>pure (a.tmps.getD t undef)
 | .cell p t=>do loadVar t (← asAddr (a.tmps.getD p undef))
theorem resS_run {P:Program} {B:Nat→Prop} {w0:Base} {w:World} {n:Nat} {σ:St} {ρ:Rho} {a:Act} (hR:R B w0 n σ ρ a w):∀ {l:List ResultVar} {r:List SV},resS P σ l=some r→
 (l.mapM (resOne a)).run P w = .ok (denL ρ r) w
 | [],r,h=>by cases h;rfl
 | .tmp t :: l,r,h=>by
  simp only [resS] at h
  cases hs:look σ.sl t with
  | none=>rw [hs] at h;cases h
  | some s =>
   rw [hs] at h
   cases hl:resS P σ l with
   | none=>rw [hl] at h;cases h
   | some r' =>
    rw [hl] at h
    cases h
    have ih:=resS_run hR hl
    simp only [List.mapM_cons,Sem.run_bind,resOne,Sem.run_pure,Result.andThen_ok,ih,(hR.sl t s hs).2,denL]
 | .cell p t :: l,r,h=>by
  simp only [resS] at h
  split at h
  · rename_i id off hs
    split at h
    · rename_i ty c ho
      split at h
      · cases h
      · rename_i g hg
        split at h
        · cases h
        · rename_i z hz
          split at h
          · cases h
          · rename_i s hp
            split at h
            · cases h
            · rename_i r' hl
              cases h
              have ih:=resS_run hR hl
              obtain ⟨k1,k2,k3⟩:=hR.hr.ok _ _ ho
              have hv:=run_loadVar_at (P:=P) k3 hg hz hp
              have he:a.tmps.getD p undef = .pointer (some ⟨(ρ id).blk,off,none⟩):=by
               rw [(hR.sl p _ hs).2]
               simp only [den,k2,Nat.zero_add]
              simp only [List.mapM_cons,resOne,Sem.run_bind,Sem.run_pure,Result.andThen_ok,ih,he,run_asAddr,hv,denL]
    · cases h
  · cases h
theorem results_run {P:Program} {B:Nat→Prop} {w0:Base} {w:World} {n:Nat} {σ:St} {ρ:Rho} {a:Act} {fn:Func} (hR:R B w0 n σ ρ a w) {r:List SV} (h:resS P σ fn.results.toList=some r) :
 (results fn a.tmps).run P w = .ok (den ρ (resV r)) w:=by
 have h1:=resS_run hR h
 have h2:(fn.results.mapM (resOne a))=List.toArray <$> fn.results.toList.mapM (resOne a):=Array.mapM_eq_mapM_toList
 have h3:results fn a.tmps=(fn.results.mapM (resOne a)) >>= fun vs=>pure (if h:vs.size=1 then vs[0] else .tuple vs):=by
  unfold results
  congr 1
 rw [h3,Sem.run_bind,h2,Sem.run_map,h1]
 simp only [Result.andThen_ok,Sem.run_pure]
 congr 1
 match r with
 | []=>rfl
 | [s]=>rfl
 | s :: s' :: r=>simp [resV,den,denL]
section
variable (P:Program) (C:FuncId→Option Con) (cn:Nat→St→Option St) (F:Nat)
def argSl:Nat→List SV→List (Nat × SV)
 | _,[]=>[]
 | i,s :: l=>(i,s) :: argSl (i+1) l
def evFn {β:Type} (fn:Func) (args:List SV) (hp:Hp) (nx:Nat) (K:SV→Hp→Option β):Option β :=
 match fn.body with
 | none=>none
 | some c=>cond (Nat.ble args.length fn.ntmps) (ev (eff P C) fn.ntmps cn F c ⟨argSl 0 args,hp,nx⟩ fun e σ'=>match e with
  | .exit _=>none
  | _=>match resS P σ' fn.results.toList with
   | none=>none
   | some l=>K (resV l) σ'.hp) none
variable {P C cn F}
theorem look_argSl:∀ (l:List SV) (i t:Nat) (s:SV),look (argSl i l) t=some s→i≤t∧l[t - i]? = some s
 | [],_,_,_,h=>by cases h
 | x :: l,i,t,s,h=>by
  simp only [argSl,look] at h
  by_cases e:i=t
  · subst e
    rw [Nat.beq_refl] at h
    cases h
    exact ⟨Nat.le_refl _,by simp⟩
  · rw [beq_no e] at h
    obtain ⟨h1,h2⟩:=look_argSl l (i+1) t s h
    refine ⟨by omega,?_⟩
    rw [show t - i=(t - (i+1))+1 by omega,List.getElem?_cons_succ]
    exact h2
theorem evFn_sound {β:Type} {B:Nat→Prop} {f:FuncId} {fn:Func} (hm:P.follows .mixedOrders=true) (hf:P.funcs[f]? = some fn) (hC:∀ g φ,C g=some φ→ConOk P B g φ) {args:List SV} {hp:Hp} {nx:Nat} {K:SV→Hp→Option β} {b:β}
 (h:evFn P C cn F fn args hp nx K=some b) (ρ:Rho) (w:World) (w0:Base) (hw0:w0.w=w) (hpn:∀ i,i<w0.pin→ρ i=w0.ρ i) (hpx:w0.pin≤nx) (hc:CnOk cn B w0 fn.ntmps) (hr:HR B ρ hp w) (hw:∀ i o,look hp i=some o→i<nx∧o.lt nx=true) (ha:ltL nx args=true) (up:∀ b,w.heap.size≤b→B b) (hdf:w0.dfs=[]:=by rfl) :
 Calls P f (denL ρ args).toArray w fun e w'=>∃ ρ' s h',e = .returned (den ρ' s)∧K s h'=some b∧HR B ρ' h' w'∧Keeps B w w'∧(∀ i,i<w0.pin→ρ' i=w0.ρ i):=by
 subst hw0
 unfold evFn at h
 cases hb:fn.body with
 | none=>rw [hb] at h;cases h
 | some c =>
  rw [hb] at h
  simp only at h
  cases hn:Nat.ble args.length fn.ntmps with
  | false=>rw [hn] at h;cases h
  | true =>
   rw [hn] at h
   simp only [cond_true] at h
   have hn:=Nat.le_of_ble_eq_true hn
   have hlen:(denL ρ args).toArray.size=args.length:=by simp [denL_length]
   refine calls_of_wp hf hb ?_
   have hR:R B w0 fn.ntmps ⟨argSl 0 args,hp,nx⟩ ρ { tmps:=(denL ρ args).toArray ++ Array.replicate (fn.ntmps - (denL ρ args).toArray.size) undef,defers:=[] } w0.w:=by
    refine ⟨by simp [denL_length];omega,hdf.symm,fun t s hs=>?_,hr,up,Keeps.refl _ _,hpn⟩
    obtain ⟨_,h2⟩:=look_argSl args 0 t s hs
    have h2:args[t]? = some s:=h2
    have hlt:=(List.getElem?_eq_some_iff.1 h2).1
    refine ⟨by omega,?_⟩
    have h3:(denL ρ args)[t]? = some (den ρ s):=by rw [denL_getElem?,h2];rfl
    have hsz:t<((denL ρ args).toArray ++ Array.replicate (fn.ntmps - (denL ρ args).toArray.size) undef).size:=by simp [denL_length];omega
    simp only [Array.getD,hsz,dif_pos]
    have:((denL ρ args).toArray ++ Array.replicate (fn.ntmps - (denL ρ args).toArray.size) undef)[t]? = some (den ρ s):=by
     rw [Array.getElem?_append_left (by simp [denL_length];omega)]
     simpa using h3
    rw [Array.getElem?_eq_getElem hsz] at this
    exact Option.some.inj this
   have hwf:Wf w0.pin ⟨argSl 0 args,hp,nx⟩:=by
    refine ⟨fun t s hs=>?_,hw,hpx⟩
    obtain ⟨_,h2⟩:=look_argSl args 0 t s hs
    have:∀ l:List SV,ltL nx l=true→∀ s∈l,s.lt nx=true:=by
     intro l
     induction l with
     | nil=>intro _ s hs;cases hs
     | cons x l ih =>
      intro hl s hs
      simp only [ltL,Bool.and_eq_true] at hl
      rcases List.mem_cons.1 hs with hs|hs
      · subst hs;exact hl.1
      · exact ih hl.2 s hs
    exact this args ha s (List.mem_of_getElem? h2)
   refine wp_mono (ev_sound hm (eff_sound hC) hc c _ _ b h ρ _ _ hwf hR) ?_
   rintro e' a' w' ⟨e,σ',ρ',rfl,hk,hw',hR'⟩
   have fin:∀ (hk:(match resS P σ' fn.results.toList with|none=>none|some l=>K (resV l) σ'.hp)=some b),
    a'.defers=[]∧∃ v,(results fn a'.tmps).run P w' = .ok v w'∧(∃ ρ'' s h',Ending.returned v = .returned (den ρ'' s)∧K s h'=some b∧HR B ρ'' h' w'∧Keeps B w0.w w'∧(∀ i,i<w0.pin→ρ'' i=w0.ρ i)):=by
    intro hk
    cases hres:resS P σ' fn.results.toList with
    | none=>rw [hres] at hk;cases hk
    | some l =>
     rw [hres] at hk
     exact ⟨hR'.df.trans hdf,_,results_run hR' hres,ρ',resV l,σ'.hp,rfl,hk,hR'.hr,hR'.ks,hR'.pn⟩
   cases e with
   | normal=>exact fin hk
   | exit id=>cases hk
   | ret=>exact fin hk
mutual
theorem den_lt0 {ρ ρ':Rho} : ∀ s:SV,s.lt 0=true→den ρ' s=den ρ s
 | .v _,_=>rfl
 | .ptr id _,h=>absurd (blt_lt h) (Nat.not_lt_zero _)
 | .elt id _ _ _,h=>absurd (blt_lt h) (Nat.not_lt_zero _)
 | .slc id _ _ _ _,h=>absurd (blt_lt h) (Nat.not_lt_zero _)
 | .all id,h=>absurd (blt_lt h) (Nat.not_lt_zero _)
 | .map id,h=>absurd (blt_lt h) (Nat.not_lt_zero _)
 | .fn _ fi ca,h=>by
  simp only [SV.lt,Bool.and_eq_true] at h
  simp only [den];rw [denL_lt0 fi h.1,denL_lt0 ca h.2]
 | .agg l,h=>by simp only [den];rw [denL_lt0 l h]
 | .tup l,h=>by simp only [den];rw [denL_lt0 l h]
theorem denL_lt0 {ρ ρ':Rho} : ∀ l:List SV,ltL 0 l=true→denL ρ' l=denL ρ l
 | [],_=>rfl
 | s :: l,h=>by
  simp only [ltL,Bool.and_eq_true] at h
  simp only [denL];rw [den_lt0 s h.1,denL_lt0 l h.2]
end
mutual
def ren (m:Nat→Nat):SV→SV
 | .v x=>.v x
 | .ptr id off=>.ptr (m id) off
 | .elt id n i sub=>.elt (m id) n i sub
 | .slc id n off len cap=>.slc (m id) n off len cap
 | .all id=>.all (m id)
 | .map id=>.map (m id)
 | .fn f fi ca=>.fn f (renL m fi) (renL m ca)
 | .agg l=>.agg (renL m l)
 | .tup l=>.tup (renL m l)
def renL (m:Nat→Nat):List SV→List SV
 | []=>[]
 | s :: l=>ren m s :: renL m l
end
mutual
theorem den_ren (ρ:Rho) (m:Nat→Nat):∀ s:SV,den ρ (ren m s)=den (fun i=>ρ (m i)) s
 | .v _ | .ptr _ _ | .elt _ _ _ _ | .slc _ _ _ _ _ | .all _ | .map _=>rfl
 | .fn _ fi ca=>by simp only [ren,den];rw [denL_ren ρ m fi,denL_ren ρ m ca]
 | .agg l=>by simp only [ren,den];rw [denL_ren ρ m l]
 | .tup l=>by simp only [ren,den];rw [denL_ren ρ m l]
theorem denL_ren (ρ:Rho) (m:Nat→Nat):∀ l:List SV,denL ρ (renL m l)=denL (fun i=>ρ (m i)) l
 | []=>rfl
 | s :: l=>by simp only [renL,denL];rw [den_ren ρ m s,denL_ren ρ m l]
end
def Reads (m:Nat→Nat) (o:AObj):AObj→Prop
 | .ro ty c=>o = .cells ty (renL m c)∨o = .ro ty (renL m c)
 | .arg s l=>(∃ ty,o = .row ty s l)∨o = .arg s l
 | _=>False
theorem Reads.shared {m:Nat→Nat} {o oc:AObj} (h:Reads m o oc):oc.shared=true:=by
 cases oc<;>first|rfl|cases h
theorem Reads.ok {m:Nat→Nat} {ρ:Rho} {w:World} {L:Loc} {o oc:AObj} (h:Reads m o oc) (hk:OK ρ w L o):OK (fun i=>ρ (m i)) w L oc:=by
 cases oc with
 | ro ty c =>
  rcases h with h|h<;>subst h
  · obtain ⟨h1,h2,h3⟩:=hk
    exact ⟨h1,h2,by rw [← denL_ren];exact h3⟩
  · obtain ⟨h1,h2,h3⟩:=hk
    exact ⟨h1,h2,by rw [← denL_ren];exact h3⟩
 | arg s l =>
  rcases h with ⟨ty,h⟩|h<;>subst h
  · obtain ⟨h0,h|⟨h1,h2,h3,arr,h4,h5,h6⟩⟩:=hk
    · exact ⟨h0,.inl ⟨h.1,h.2.1⟩⟩
    · refine ⟨h0,.inr ⟨h1,(Array.getElem?_eq_some_iff.1 h4).1,h3,fun j v hv=>?_⟩⟩
      rw [h2,Nat.zero_add,cell_of_row w _ _ _ _ _ h4]
      rw [← h6,List.getElem?_take] at hv
      split at hv
      · simpa using hv
      · cases hv
  · exact hk
 | _=>cases h
theorem con_reads {B : Nat → Prop} {f : FuncId} {fn : Func} {c0 : Code} (hm : P.follows .mixedOrders = true) (hf : P.funcs[f]? = some fn) (hname : (fn.name == "runtime.NumGoroutine") = false) (hbody : fn.body = some c0)
 (hC:∀ B' g φ,C g=some φ→ConOk P B' g φ) (hcn:∀ B' (w:World),CnOk cn B' (Base.of w) fn.ntmps) (args:List SV) (m:Nat→Nat) (hc:Hp) (nx:Nat) (r:SV) {K:SV→Hp→Option SV}
 (hK:∀ s h' x,K s h'=some x→x=s∧s.lt 0=true) (hev:evFn P C cn F fn args hc nx K=some r)
 (ρ:Rho) (h:Hp) (w:World) (lo:Nat) (hr:HR B ρ h w) (up:∀ b,w.heap.size≤b→B b)
 (hargs:ltL nx args=true) (hwf:∀ i oc,look hc i=some oc→i<nx∧oc.lt nx=true) (hreads:∀ i oc,look hc i=some oc→∃ o,look h (m i)=some o∧Reads m o oc) :
 CallGives P f (denL ρ (renL m args)).toArray w fun v w'=>∃ ρ',Made B ρ h w lo (lo+wide) ⟨r,[]⟩ ρ' v w':=by
 refine .inl ⟨Go.run_callFunc_enter' hf hname hbody _ _,?_⟩
 rw [denL_ren]
 have hrc:HR (fun b=>w.heap.size≤b) (fun i=>ρ (m i)) hc w:=by
  refine ⟨fun i oc ho=>?_,fun i oc ho hown=>?_,fun i oc ho hs hn=>?_,fun i j o o' ho ho' hown=>?_⟩
  · obtain ⟨o,h1,h2⟩:=hreads i oc ho
    exact h2.ok (hr.ok _ _ h1)
  · obtain ⟨o,h1,h2⟩:=hreads i oc ho
    have:=h2.shared
    cases oc<;>first|(cases hown;done)|(cases this;done)
  · obtain ⟨o,h1,h2⟩:=hreads i oc ho
    have hk:=h2.ok (hr.ok _ _ h1)
    have:=hk.lt (fun e=>by subst e;cases hs) hn
    show ¬ w.heap.size≤_
    omega
  · obtain ⟨o1,h1,h2⟩:=hreads i o ho
    have:=h2.shared
    cases o<;>first|(cases hown;done)|(cases this;done)
 refine (evFn_sound hm hf (hC _) hev _ w (Base.of w) rfl (fun i hi=>absurd hi (Nat.not_lt_zero _)) (Nat.zero_le _) (hcn _ w) hrc hwf hargs (fun b hb=>hb)).mono ?_
 rintro e w' ⟨ρ',s,h',rfl,hk,_,hks,_⟩
 obtain ⟨rfl,hlt⟩:=hK _ _ _ hk
 refine ⟨_,rfl,ρ,?_⟩
 have hb:Below w.heap.size w w':=hks.below (fun b hb=>hb)
 refine ⟨den_lt0 _ hlt,fun _ _=>rfl,hr.keep hb.size fun i o ho hd hn=>hb.block _ ((hr.ok i o ho).lt hd hn),Keeps.of_below hb up⟩
end
end Go.Proofs.Ytlfkfajodnkkhaa.Ax
namespace Go.Proofs.Ytlfkfajodnkkhaa.Ax
open Go Go.RowKit
set_option linter.unusedVariables false
set_option linter.unusedSimpArgs false
mutual
def SV.ids (p:Nat→Bool):SV→Bool
 | .v _=>true
 | .ptr id _ | .elt id _ _ _ | .slc id _ _ _ _ | .all id | .map id=>p id
 | .fn _ fi ca=>idsL p fi && idsL p ca
 | .agg l | .tup l=>idsL p l
def idsL (p:Nat→Bool):List SV→Bool
 | []=>true
 | s :: l=>SV.ids p s && idsL p l
end
mutual
theorem den_ids {ρ ρ':Rho} {p:Nat→Bool} (h:∀ i,p i=true→ρ' i=ρ i):∀ s:SV,s.ids p=true→den ρ' s=den ρ s
 | .v _,_=>rfl
 | .ptr id _,hs=>by simp only [den];rw [h id hs]
 | .elt id _ _ _,hs=>by simp only [den];rw [h id hs]
 | .slc id _ _ _ _,hs=>by simp only [den];rw [h id hs]
 | .all id,hs=>by simp only [den];rw [h id hs]
 | .map id,hs=>by simp only [den];rw [h id hs]
 | .fn _ fi ca,hs=>by
  simp only [SV.ids,Bool.and_eq_true] at hs
  simp only [den];rw [denL_ids h fi hs.1,denL_ids h ca hs.2]
 | .agg l,hs=>by simp only [den];rw [denL_ids h l hs]
 | .tup l,hs=>by simp only [den];rw [denL_ids h l hs]
theorem denL_ids {ρ ρ':Rho} {p:Nat→Bool} (h:∀ i,p i=true→ρ' i=ρ i):∀ l:List SV,idsL p l=true→denL ρ' l=denL ρ l
 | [],_=>rfl
 | s :: l,hs=>by
  simp only [idsL,Bool.and_eq_true] at hs
  simp only [denL];rw [den_ids h s hs.1,denL_ids h l hs.2]
end
def renO (m:Nat→Nat):AObj→AObj
 | .cells t c=>.cells t (renL m c)
 | .ro t c=>.ro t (renL m c)
 | o=>o
def AObj.ids (p:Nat→Bool):AObj→Bool
 | .cells _ c | .ro _ c=>idsL p c
 | _=>true
mutual
def SV.names:SV→List Nat
 | .v _=>[]
 | .ptr id _ | .elt id _ _ _ | .slc id _ _ _ _ | .all id | .map id=>[id]
 | .fn _ fi ca=>namesL fi ++ namesL ca
 | .agg l | .tup l=>namesL l
def namesL:List SV→List Nat
 | []=>[]
 | s :: l=>SV.names s ++ namesL l
end
def AObj.names:AObj→List Nat
 | .cells _ c | .ro _ c=>namesL c
 | _=>[]
def gcGo (hp:Hp) (pin:Nat):Nat→List Nat→Nat→List (Nat × Nat)→List (Nat × Nat)
 | 0,_,_,acc=>acc
 | _+1,[],_,acc=>acc
 | f+1,i :: l,n,acc =>
  cond (Nat.blt i pin) (gcGo hp pin f l n acc) (match look acc i with
   | some _=>gcGo hp pin f l n acc
   | none=>match look hp i with
    | none=>gcGo hp pin f l n acc
    | some o=>gcGo hp pin f (l ++ o.names) (n+1) (acc ++ [(i,n)]))
def pins (pin:Nat):Hp→List (Nat × Nat)
 | []=>[]
 | (i,_) :: l=>cond (Nat.blt i pin) ((i,i) :: pins pin l) (pins pin l)
def pinNames (pin:Nat):Hp→List Nat
 | []=>[]
 | (i,o) :: l=>cond (Nat.blt i pin) (o.names ++ pinNames pin l) (pinNames pin l)
def fwd (L:List (Nat × Nat)) (i:Nat):Nat:=match look L i with
 | some j=>j
 | none=>0
def swapL:List (Nat × Nat)→List (Nat × Nat)
 | []=>[]
 | (i,j) :: l=>(j,i) :: swapL l
def bak (L:List (Nat × Nat)) (j:Nat):Nat:=match look (swapL L) j with
 | some i=>i
 | none=>j
def slotsOf (σ:St) (m:Nat→Nat):List Nat→Option (List (Nat × SV))
 | []=>some []
 | t :: l=>match look σ.sl t with
  | none=>none
  | some s=>match slotsOf σ m l with
   | none=>none
   | some r=>some ((t,ren m s) :: r)
def heapOf (hp:Hp) (m:Nat→Nat):List (Nat × Nat)→Hp
 | []=>[]
 | (i,j) :: l=>(j,match look hp i with
  | some o=>renO m o
  | none=>.dead) :: heapOf hp m l
def valsOf (σ:St):List Nat→List Nat
 | []=>[]
 | t :: l=>match look σ.sl t with
  | none=>valsOf σ l
  | some s=>s.names ++ valsOf σ l
def chkSl (σ:St) (p:Nat→Bool):List Nat→Bool
 | []=>true
 | t :: l=>(match look σ.sl t with
  | none=>false
  | some s=>s.ids p) && chkSl σ p l
def chkL (L:List (Nat × Nat)) (hp:Hp) (N:Nat) (p:Nat→Bool):List (Nat × Nat)→Bool
 | []=>true
 | (i,j) :: l=>Nat.beq (fwd L i) j && Nat.beq (bak L j) i && Nat.blt j N && (match look hp i with
  | some o=>o.ids p
  | none=>true) && chkL L hp N p l
def chkPin (pin:Nat):List (Nat × Nat)→Bool
 | []=>true
 | (i,j) :: l=>(Nat.ble pin j || Nat.beq i j) && chkPin pin l
theorem chkPin_bak {pin:Nat} {j:Nat} (hj:j<pin):∀ {L:List (Nat × Nat)},chkPin pin L=true→bak L j=j
 | [],_=>rfl
 | (a,b) :: l,h=>by
  simp only [chkPin,Bool.and_eq_true,Bool.or_eq_true] at h
  have ih:=chkPin_bak hj h.2
  unfold bak at ih ⊢
  simp only [swapL,look]
  by_cases e:b=j
  · subst e
    rw [Nat.beq_refl]
    rcases h.1 with h1|h1
    · have:=Nat.le_of_ble_eq_true h1;omega
    · exact Nat.eq_of_beq_eq_true h1
  · rw [beq_no e]
    exact ih
def gcSt (S:List Nat) (pin:Nat) (σ:St):Option St :=
 let L:=pins pin σ.hp ++ gcGo σ.hp pin 1000 (valsOf σ S ++ pinNames pin σ.hp) pin []
 let N:=pin+L.length
 let p:=fun i=>Nat.beq (bak L (fwd L i)) i && Nat.blt (fwd L i) N
 cond (chkSl σ p S && chkL L σ.hp N p L && chkPin pin L) (match slotsOf σ (fwd L) S with
  | none=>none
  | some sl=>some ⟨sl,heapOf σ.hp (fwd L) L,N⟩) none
theorem slotsOf_look {σ:St} {m:Nat→Nat} : ∀ {S:List Nat} {r:List (Nat × SV)},slotsOf σ m S=some r→∀ t s,look r t=some s→∃ s0,t∈S∧look σ.sl t=some s0∧s=ren m s0
 | [],r,h,t,s,hs=>by cases h;cases hs
 | t' :: S,r,h,t,s,hs=>by
  simp only [slotsOf] at h
  cases h1:look σ.sl t' with
  | none=>rw [h1] at h;cases h
  | some s1 =>
   rw [h1] at h
   cases h2:slotsOf σ m S with
   | none=>rw [h2] at h;cases h
   | some r' =>
    rw [h2] at h
    cases h
    simp only [look] at hs
    by_cases e:t'=t
    · subst e
      rw [Nat.beq_refl] at hs
      cases hs
      exact ⟨s1,by simp,h1,rfl⟩
    · rw [beq_no e] at hs
      obtain ⟨s0,k1,k2,k3⟩:=slotsOf_look h2 t s hs
      exact ⟨s0,by simp [k1],k2,k3⟩
theorem heapOf_look {hp:Hp} {m:Nat→Nat} : ∀ {L:List (Nat × Nat)} {j:Nat} {o:AObj},look (heapOf hp m L) j=some o→∃ i,(i,j)∈L∧((∃ o0,look hp i=some o0∧o=renO m o0)∨o = .dead)
 | [],_,_,h=>by cases h
 | (i,j') :: L,j,o,h=>by
  simp only [heapOf,look] at h
  by_cases e:j'=j
  · subst e
    rw [Nat.beq_refl] at h
    refine ⟨i,by simp,?_⟩
    cases ho:look hp i with
    | none=>rw [ho] at h;cases h;exact .inr rfl
    | some o0=>rw [ho] at h;cases h;exact .inl ⟨o0,rfl,rfl⟩
  · rw [beq_no e] at h
    obtain ⟨i',h1,h2⟩:=heapOf_look h
    exact ⟨i',by simp [h1],h2⟩
theorem chkSl_spec {σ:St} {p:Nat→Bool} : ∀ {S:List Nat},chkSl σ p S=true→∀ t∈S,∀ s,look σ.sl t=some s→s.ids p=true
 | [],_,_,h,_,_=>by cases h
 | t' :: S,h,t,ht,s,hs=>by
  simp only [chkSl,Bool.and_eq_true] at h
  rcases List.mem_cons.1 ht with ht|ht
  · subst ht;rw [hs] at h;exact h.1
  · exact chkSl_spec h.2 t ht s hs
theorem chkL_spec {L0:List (Nat × Nat)} {hp:Hp} {N:Nat} {p:Nat→Bool} : ∀ {L:List (Nat × Nat)},chkL L0 hp N p L=true→∀ i j,(i,j)∈L→fwd L0 i=j∧bak L0 j=i∧j<N∧(∀ o,look hp i=some o→o.ids p=true)
 | [],_,_,_,h=>by cases h
 | (i',j') :: L,h,i,j,hm=>by
  simp only [chkL,Bool.and_eq_true] at h
  obtain ⟨⟨⟨⟨h1,h2⟩,h3⟩,h4⟩,h5⟩:=h
  rcases List.mem_cons.1 hm with hm|hm
  · cases hm
    exact ⟨Nat.eq_of_beq_eq_true h1,Nat.eq_of_beq_eq_true h2,blt_lt h3,fun o ho=>by rw [ho] at h4;exact h4⟩
  · exact chkL_spec h5 i j hm
mutual
theorem ren_lt {m:Nat→Nat} {N:Nat} {p:Nat→Bool} (hp:∀ i,p i=true→m i<N):∀ s:SV,s.ids p=true→(ren m s).lt N=true
 | .v _,_=>rfl
 | .ptr id _,hs=>lt_blt (hp id hs)
 | .elt id _ _ _,hs=>lt_blt (hp id hs)
 | .slc id _ _ _ _,hs=>lt_blt (hp id hs)
 | .all id,hs=>lt_blt (hp id hs)
 | .map id,hs=>lt_blt (hp id hs)
 | .fn _ fi ca,hs=>by
  simp only [SV.ids,Bool.and_eq_true] at hs
  simp only [ren,SV.lt,renL_lt hp fi hs.1,renL_lt hp ca hs.2,Bool.and_true]
 | .agg l,hs=>renL_lt hp l hs
 | .tup l,hs=>renL_lt hp l hs
theorem renL_lt {m:Nat→Nat} {N:Nat} {p:Nat→Bool} (hp:∀ i,p i=true→m i<N):∀ l:List SV,idsL p l=true→ltL N (renL m l)=true
 | [],_=>rfl
 | s :: l,hs=>by
  simp only [idsL,Bool.and_eq_true] at hs
  simp only [renL,ltL,ren_lt hp s hs.1,renL_lt hp l hs.2,Bool.and_true]
end
theorem gcSt_ok {B:Nat→Prop} {w0:Base} {n:Nat} {S:List Nat} {pin:Nat} {σ σ':St} (hpin:w0.pin≤pin) (h:gcSt S pin σ=some σ'):Wf w0.pin σ'∧∀ ρ a w,R B w0 n σ ρ a w→∃ ρ',R B w0 n σ' ρ' a w:=by
 unfold gcSt at h
 simp only at h
 generalize hL:pins pin σ.hp ++ gcGo σ.hp pin 1000 (valsOf σ S ++ pinNames pin σ.hp) pin []=L at h
 generalize hN:pin+L.length=N at h
 cases hc:(chkSl σ (fun i=>Nat.beq (bak L (fwd L i)) i && Nat.blt (fwd L i) N) S && chkL L σ.hp N (fun i=>Nat.beq (bak L (fwd L i)) i && Nat.blt (fwd L i) N) L && chkPin pin L) with
 | false=>rw [hc] at h;cases h
 | true =>
  rw [hc] at h
  simp only [cond_true] at h
  simp only [Bool.and_eq_true] at hc
  obtain ⟨⟨c1,c2⟩,c3⟩:=hc
  cases hs:slotsOf σ (fwd L) S with
  | none=>rw [hs] at h;cases h
  | some sl =>
   rw [hs] at h
   cases h
   have hp1:∀ i,(Nat.beq (bak L (fwd L i)) i && Nat.blt (fwd L i) N)=true→bak L (fwd L i)=i∧fwd L i<N:=fun i hi=>by
    simp only [Bool.and_eq_true] at hi
    exact ⟨Nat.eq_of_beq_eq_true hi.1,blt_lt hi.2⟩
   have spec:=chkL_spec c2
   refine ⟨⟨fun t s hts=>?_,fun j o ho=>?_,by show w0.pin≤N;omega⟩,fun ρ a w hR=>⟨fun j=>ρ (bak L j),?_⟩⟩
   · obtain ⟨s0,k1,k2,k3⟩:=slotsOf_look hs t s hts
     subst k3
     exact ren_lt (fun i hi=>(hp1 i hi).2) s0 (chkSl_spec c1 t k1 s0 k2)
   · obtain ⟨i,k1,k2⟩:=heapOf_look ho
     obtain ⟨e1,e2,e3,e4⟩:=spec i j k1
     refine ⟨e3,?_⟩
     rcases k2 with ⟨o0,h1,h2⟩|h2
     · subst h2
       have:=e4 o0 h1
       cases o0<;>first|rfl|exact renL_lt (fun i hi=>(hp1 i hi).2) _ this
     · subst h2;rfl
   · have denO:∀ c:List SV,idsL (fun i=>Nat.beq (bak L (fwd L i)) i && Nat.blt (fwd L i) N) c=true→denL (fun j=>ρ (bak L j)) (renL (fwd L) c)=denL ρ c:=fun c hc=>by
      rw [denL_ren]
      exact denL_ids (fun i hi=>by rw [(hp1 i hi).1]) c hc
     have okO:∀ i o0,look σ.hp i=some o0→o0.ids (fun i=>Nat.beq (bak L (fwd L i)) i && Nat.blt (fwd L i) N)=true→OK (fun j=>ρ (bak L j)) w (ρ i) (renO (fwd L) o0):=by
      intro i o0 ho hi
      have hk:=hR.hr.ok i o0 ho
      cases o0 with
      | dead=>trivial
      | cells ty c=>exact ⟨hk.1,hk.2.1,by rw [denO c hi];exact hk.2.2⟩
      | ro ty c=>exact ⟨hk.1,hk.2.1,by rw [denO c hi];exact hk.2.2⟩
      | row ty s l=>exact hk
      | arg s l=>exact hk
      | mapo ks vs l=>exact hk
      | raw o=>exact hk
     have own:∀ o:AObj,(renO (fwd L) o).own=o.own:=fun o=>by cases o<;>rfl
     have shd:∀ o:AObj,(renO (fwd L) o).shared=o.shared:=fun o=>by cases o<;>rfl
     refine ⟨hR.sz,hR.df,fun t s hts=>?_,⟨fun j o ho=>?_,fun j o ho hown hn=>?_,fun j o ho hsh hn=>?_,fun j j' o o' ho ho' hown hown' hn hn' hjj=>?_⟩,hR.up,hR.ks,fun i hi=>by show ρ (bak L i)=_;rw [chkPin_bak (Nat.lt_of_lt_of_le hi hpin) c3];exact hR.pn i hi⟩
     · obtain ⟨s0,k1,k2,k3⟩:=slotsOf_look hs t s hts
       subst k3
       obtain ⟨e1,e2⟩:=hR.sl t s0 k2
       refine ⟨e1,?_⟩
       rw [e2,den_ren]
       exact (den_ids (fun i hi=>by rw [(hp1 i hi).1]) s0 (chkSl_spec c1 t k1 s0 k2)).symm
     · obtain ⟨i,k1,k2⟩:=heapOf_look ho
       obtain ⟨e1,e2,e3,e4⟩:=spec i j k1
       rcases k2 with ⟨o0,h1,h2⟩|h2
       · subst h2
         show OK _ w (ρ (bak L j)) _
         rw [e2]
         exact okO i o0 h1 (e4 o0 h1)
       · subst h2;trivial
     · obtain ⟨i,k1,k2⟩:=heapOf_look ho
       obtain ⟨e1,e2,e3,e4⟩:=spec i j k1
       rcases k2 with ⟨o0,h1,h2⟩|h2
       · subst h2
         rw [own] at hown
         show B (ρ (bak L j)).blk
         rw [e2] at hn ⊢
         exact hR.hr.inB i o0 h1 hown hn
       · subst h2;cases hown
     · obtain ⟨i,k1,k2⟩:=heapOf_look ho
       obtain ⟨e1,e2,e3,e4⟩:=spec i j k1
       rcases k2 with ⟨o0,h1,h2⟩|h2
       · subst h2
         rw [shd] at hsh
         show ¬ B (ρ (bak L j)).blk
         rw [e2] at hn ⊢
         exact hR.hr.arg i o0 h1 hsh hn
       · subst h2;cases hsh
     · obtain ⟨i,k1,k2⟩:=heapOf_look ho
       obtain ⟨i',k1',k2'⟩:=heapOf_look ho'
       obtain ⟨e1,e2,e3,e4⟩:=spec i j k1
       obtain ⟨e1',e2',e3',e4'⟩:=spec i' j' k1'
       rcases k2 with ⟨o0,h1,h2⟩|h2
       · rcases k2' with ⟨o0',h1',h2'⟩|h2'
         · subst h2;subst h2'
           rw [own] at hown hown'
           show (ρ (bak L j)).blk≠(ρ (bak L j')).blk
           rw [e2] at hn ⊢
           rw [e2'] at hn' ⊢
           exact hR.hr.inj i i' o0 o0' h1 h1' hown hown' hn hn' (fun e=>hjj (by rw [← e1,← e1',e]))
         · subst h2';cases hown'
       · subst h2;cases hown
def cnOf (pin:Nat) (T:Nat→Option (List Nat)) (k:Nat) (σ:St):Option St:=match T k with
 | none=>some σ
 | some S=>match gcSt S pin σ with
  | none=>none
  | some σ'=>forceSt σ' some
theorem cnOf_ok {pin:Nat} {T:Nat→Option (List Nat)} {B:Nat→Prop} {w0:Base} {n:Nat} (hp:w0.pin≤pin:=by exact Nat.zero_le _):CnOk (cnOf pin T) B w0 n:=by
 intro k σ σ' h
 unfold cnOf at h
 split at h
 · cases h;exact ⟨fun h=>h,fun ρ a w hR=>⟨ρ,hR⟩⟩
 · split at h
   · cases h
   · rename_i σ1 hg
     rw [forceSt_eq] at h
     cases h
     have:=gcSt_ok (B:=B) (n:=n) hp hg
     exact ⟨fun _=>this.1,this.2⟩
end Go.Proofs.Ytlfkfajodnkkhaa.Ax
namespace Go.Proofs.Ytlfkfajodnkkhaa.Ax
open Go Go.RowKit
set_option linter.unusedVariables false
set_option linter.unusedSimpArgs false
mutual
theorem ren_id:∀ s:SV,ren (fun i=>i) s=s
 | .v _ | .ptr _ _ | .elt _ _ _ _ | .slc _ _ _ _ _ | .all _ | .map _=>rfl
 | .fn _ fi ca=>by simp only [ren];rw [renL_id fi,renL_id ca]
 | .agg l=>by simp only [ren];rw [renL_id l]
 | .tup l=>by simp only [ren];rw [renL_id l]
theorem renL_id:∀ l:List SV,renL (fun i=>i) l=l
 | []=>rfl
 | s :: l=>by simp only [renL];rw [ren_id s,renL_id l]
end
def K1 (s:SV) (_:Hp):Option SV:=cond (s.lt 0) (some s) none
theorem K1_spec (s:SV) (h:Hp) (x:SV) (hk:K1 s h=some x):x=s∧s.lt 0=true:=by
 unfold K1 at hk
 cases e:s.lt 0 with
 | false=>rw [e] at hk;cases hk
 | true=>rw [e] at hk;cases hk;exact ⟨rfl,rfl⟩
section
variable {P:Program} {C:FuncId→Option Con} {cn:Nat→St→Option St} {F:Nat}
theorem con_pure {f : FuncId} {fn : Func} {c0 : Code} (hm : P.follows .mixedOrders = true) (hf : P.funcs[f]? = some fn) (hname : (fn.name == "runtime.NumGoroutine") = false) (hbody : fn.body = some c0)
 (hC:∀ B' g φ,C g=some φ→ConOk P B' g φ) (hcn:∀ B' (w:World),CnOk cn B' (Base.of w) fn.ntmps) {φ:Con}
 (hφ:∀ args lo h out ids,(φ args lo).run h=some (out,ids)→out.upd=[]∧ltL 0 args=true∧evFn P C cn F fn args [] 0 K1=some out.val) (B:Nat→Prop):ConOk P B f φ:=by
 intro args ρ h w lo out ids hr hrh hfree hargs up
 obtain ⟨h1,h2,h3⟩:=hφ args lo h out ids hr
 have:=con_reads (B:=B) hm hf hname hbody hC hcn args (fun i=>i) [] 0 out.val K1_spec h3 ρ h w lo hrh up h2 (fun i oc hi=>by cases hi) (fun i oc hi=>by cases hi)
 rw [renL_id] at this
 obtain ⟨v,u⟩:=out
 simp only at h1
 subst h1
 exact this
theorem calls_of_con {f : FuncId} {fn : Func} {c0 : Code} (hf : P.funcs[f]? = some fn) (hname : (fn.name == "runtime.NumGoroutine") = false) (hbody : fn.body = some c0) {φ : Con} (hc : ∀ B, ConOk P B f φ) {args : List SV} {out : Out} {ids : List Nat}
 (hr:(φ args 0).run []=some (out,ids)) (ha:freeL 0 wide args=true) (hv:out.val.lt 0=true) (ρ:Rho) (w:World) :
 Calls P f (denL ρ args).toArray w fun e w'=>e = .returned (den ρ out.val)∧Below w.heap.size w w':=by
 have hh:HR (fun b=>w.heap.size≤b) ρ [] w:=⟨(fun i o h=>by cases h),(fun i o h=>by cases h),(fun i o h=>by cases h),(fun i j o o' h=>by cases h)⟩
 rcases hc (fun b=>w.heap.size≤b) args ρ [] w 0 out ids hr hh (fun i o h=>by cases h) (by rw [Nat.zero_add];exact ha) (fun b hb=>hb) with ⟨_,h2⟩|⟨v,w',h1,_⟩
 · refine h2.mono ?_
   rintro e w' ⟨v,rfl,ρ',m⟩
   exact ⟨by rw [m.val,den_lt0 (ρ:=ρ) _ hv],m.ks.below (fun b hb=>hb)⟩
 · rw [run_callFunc_enter' hf hname hbody] at h1
   cases h1
end
section
variable (E:Oper→(Operand→Option SV)→Nat→Rd Out) (n:Nat) (cn:Nat→St→Option St) (F:Nat)
def seqK {β:Type} (b:Code) (K:Ex→St→Option β):Ex→St→Option β:=fun e σ'=>match e with
 | .normal=>ev E n cn F b σ' K
 | .exit id=>K (.exit id) σ'
 | .ret=>K .ret σ'
def blkK {β:Type} (id:Nat) (K:Ex→St→Option β):Ex→St→Option β:=fun e σ'=>match e with
 | .normal=>K .normal σ'
 | .exit j=>cond (Nat.beq j id) (K .normal σ') (K (.exit j) σ')
 | .ret=>K .ret σ'
def loopF {β:Type} (c:Code) (K:Ex→St→Option β):(St→Option β)→St→Option β:=fun rec σ1=>ev E n cn F c σ1 fun e σ'=>match e with
 | .normal=>match cn (key c) σ' with
  | none=>none
  | some σ2=>rec σ2
 | .exit id=>K (.exit id) σ'
 | .ret=>K .ret σ'
inductive Dir where
 | L|R|D|T|E
def sub:List Dir→Code→Code
 | [],c=>c
 | d :: p,c=>match c with
  | .seq a b=>match d with
   | .L=>sub p a
   | _=>sub p b
  | .cond _ a b=>match d with
   | .T=>sub p a
   | _=>sub p b
  | .block _ c=>sub p c
  | .loop c=>sub p c
  | c=>c
def kont {β:Type} : List Dir→Code→(Ex→St→Option β)→Ex→St→Option β
 | [],_,K=>K
 | d :: p,c,K=>match c with
  | .seq a b=>match d with
   | .L=>kont p a (seqK E n cn F b K)
   | _=>kont p b K
  | .cond _ a b=>match d with
   | .T=>kont p a K
   | _=>kont p b K
  | .block id c=>kont p c (blkK id K)
  | _=>K
def finK {β:Type} (P:Program) (fn:Func) (K:SV→Hp→Option β):Ex→St→Option β:=fun e σ'=>match e with
 | .exit _=>none
 | _=>match resS P σ' fn.results.toList with
  | none=>none
  | some l=>K (resV l) σ'.hp
def bodyOf (fn:Func):Code:=match fn.body with
 | some c=>c
 | none=>.skip
def loopAt {β:Type} (P:Program) (fn:Func) (K:SV→Hp→Option β) (p:List Dir) (k:Nat) (σ:St):Option β :=
 match sub p (bodyOf fn) with
 | .loop c=>iter k (loopF E n cn F c (kont E n cn F p (bodyOf fn) (finK P fn K))) σ
 | _=>none
end
theorem sel_true {α:Type} (x y:Option α):sel true x y=x:=rfl
theorem sel_false {α:Type} (x y:Option α):sel false x y=y:=rfl
theorem obnd_some {α β:Type} (x:α) (f:α→Option β):obnd (some x) f=f x:=rfl
end Go.Proofs.Ytlfkfajodnkkhaa.Ax
