/- InvoiceWhole. -/
import Derived.Test.YtlfkfajodnkkhaaShP
import Derived.Test.YtlfkfajodnkkhaaX0
import Derived.Test.YtlfkfajodnkkhaaShI
namespace Go.Proofs.Ytlfkfajodnkkhaa.Iv
open Go Go.RowKit Go.Proofs.YtlfkfajodnkkhaaW.PrintWords Go.Proofs.Ytlfkfajodnkkhaa.Ax Go.Proofs.Ytlfkfajodnkkhaa.Sh
set_option linter.unusedVariables false
set_option linter.unusedSimpArgs false
def idxs (k:Key):List Item→Int→List Int
 | [],_=>[]
 | x :: l,i=>if keyI x=k then i :: idxs k l (i+1) else idxs k l (i+1)
def atOf (k:Key):List GV→List Int
 | []=>[]
 | g :: gs=>if g.1=k then g.2 else atOf k gs
theorem atOf_add (i:Int) (k k':Key):∀ gs:List GV,atOf k (addG i k' gs)=if k=k' then atOf k gs ++ [i] else atOf k gs
 | []=>by
  show (if k'=k then [i] else [])=_
  by_cases h:k=k'
  · rw [if_pos h,if_pos h.symm];rfl
  · rw [if_neg h,if_neg (fun e=>h e.symm)];rfl
 | g :: gs=>by
  have ih:=atOf_add i k k' gs
  show atOf k (if g.1=k' then (g.1,g.2 ++ [i]) :: gs else g :: addG i k' gs)=if k=k' then (if g.1=k then g.2 else atOf k gs) ++ [i] else (if g.1=k then g.2 else atOf k gs)
  by_cases h1:g.1=k'
  · rw [if_pos h1]
    show (if g.1=k then g.2 ++ [i] else atOf k gs)=_
    by_cases h2:g.1=k
    · rw [if_pos h2,if_pos (h2.symm.trans h1),if_pos h2]
    · rw [if_neg h2,if_neg h2,if_neg (fun e=>h2 (h1.trans e.symm))]
  · rw [if_neg h1]
    show (if g.1=k then g.2 else atOf k (addG i k' gs))=_
    by_cases h2:g.1=k
    · rw [if_pos h2,if_pos h2,if_neg (fun e=>h1 (h2.trans e))]
    · rw [if_neg h2,if_neg h2,ih]
theorem atOf_grps (k:Key):∀ (l:List Item) (i:Int) (gs:List GV),atOf k (grpsV l i gs)=atOf k gs ++ idxs k l i
 | [],i,gs=>by show atOf k gs=atOf k gs ++ [];rw [List.append_nil]
 | x :: l,i,gs=>by
  show atOf k (grpsV l (i+1) (addG i (keyI x) gs))=atOf k gs ++ (if keyI x=k then i :: idxs k l (i+1) else idxs k l (i+1))
  rw [atOf_grps k l (i+1),atOf_add]
  by_cases h:keyI x=k
  · rw [if_pos h,if_pos h.symm,List.append_assoc];rfl
  · rw [if_neg h,if_neg (fun e=>h e.symm)]
def Keyed (gs:List GV):Prop:=(gs.map (·.1)).Nodup∧∀ g∈gs,g.2≠[]
theorem addG_keys (i:Int) (k:Key):∀ gs:List GV,(∀ x,x∈(addG i k gs).map (·.1)↔x∈gs.map (·.1)∨x=k)
 | [],x=>by simp [addG]
 | g :: gs,x=>by
  show x∈(if g.1=k then (g.1,g.2 ++ [i]) :: gs else g :: addG i k gs).map (·.1)↔_
  by_cases h:g.1=k
  · rw [if_pos h]
    simp only [List.map_cons,List.mem_cons]
    constructor
    · intro hx;exact .inl hx
    · rintro (hx|hx)
      · exact hx
      · exact .inl (hx.trans h.symm)
  · rw [if_neg h]
    simp only [List.map_cons,List.mem_cons,addG_keys i k gs x]
    constructor
    · rintro (hx|hx|hx)
      · exact .inl (.inl hx)
      · exact .inl (.inr hx)
      · exact .inr hx
    · rintro ((hx|hx)|hx)
      · exact .inl hx
      · exact .inr (.inl hx)
      · exact .inr (.inr hx)
theorem addG_keyed (i:Int) (k:Key):∀ gs:List GV,Keyed gs→Keyed (addG i k gs)
 | [],h=>⟨by simp [addG],fun g hg=>by simp [addG] at hg;rw [hg];simp⟩
 | g :: gs,h=>by
  obtain ⟨h1,h2⟩:=h
  rw [List.map_cons,List.nodup_cons] at h1
  have ih:=addG_keyed i k gs ⟨h1.2,fun x hx=>h2 x (by simp [hx])⟩
  show Keyed (if g.1=k then (g.1,g.2 ++ [i]) :: gs else g :: addG i k gs)
  by_cases h:g.1=k
  · rw [if_pos h]
    refine ⟨by rw [List.map_cons,List.nodup_cons];exact h1,fun x hx=>?_⟩
    rcases List.mem_cons.1 hx with rfl|hx
    · simp
    · exact h2 x (by simp [hx])
  · rw [if_neg h]
    refine ⟨?_,fun x hx=>?_⟩
    · rw [List.map_cons,List.nodup_cons]
      refine ⟨fun hm=>?_,ih.1⟩
      rcases (addG_keys i k gs g.1).1 hm with hm|hm
      · exact h1.1 hm
      · exact h hm
    · rcases List.mem_cons.1 hx with rfl|hx
      · exact h2 x (by simp)
      · exact ih.2 x hx
theorem grps_keyed:∀ (l:List Item) (i:Int) (gs:List GV),Keyed gs→Keyed (grpsV l i gs)
 | [],_,_,h=>h
 | x :: l,i,gs,h=>grps_keyed l (i+1) _ (addG_keyed i (keyI x) gs h)
theorem atOf_mem:∀ (gs:List GV),(gs.map (·.1)).Nodup→∀ g∈gs,atOf g.1 gs=g.2
 | [],_,g,hg=>by cases hg
 | x :: gs,h,g,hg=>by
  rw [List.map_cons,List.nodup_cons] at h
  show (if x.1=g.1 then x.2 else atOf g.1 gs)=g.2
  rcases List.mem_cons.1 hg with rfl|hg
  · rw [if_pos rfl]
  · have hne:¬ x.1=g.1:=fun e=>h.1 (by rw [e];exact List.mem_map.2 ⟨g,hg,rfl⟩)
    rw [if_neg hne,atOf_mem gs h.2 g hg]
theorem grp_at {l:List Item} {g:GV} (hg:g∈grpsV l 0 []):g.2=idxs g.1 l 0∧g.2≠[]:=by
 have hk:=grps_keyed l 0 [] ⟨List.nodup_nil,fun g hg=>by cases hg⟩
 refine ⟨?_,hk.2 g hg⟩
 rw [← atOf_mem _ hk.1 g hg,atOf_grps];rfl
theorem mem_idxs (k:Key):∀ (l:List Item) (i0 i:Int),i∈idxs k l i0→i0≤i∧i<i0+l.length∧keyI (rIt l (i - i0))=k
 | [],i0,i,h=>by cases h
 | x :: l,i0,i,h=>by
  have tl:i∈idxs k l (i0+1)→i0≤i∧i<i0+((x :: l).length:Int)∧keyI (rIt (x :: l) (i - i0))=k:=by
   intro h
   obtain ⟨h1,h2,h3⟩:=mem_idxs k l (i0+1) i h
   refine ⟨by omega,by rw [List.length_cons];omega,?_⟩
   have e:rIt (x :: l) (i - i0)=rIt l (i - (i0+1)):=by
    unfold rIt
    rw [show (i - i0).toNat=(i - (i0+1)).toNat+1 by omega];rfl
   rw [e];exact h3
  have h:i∈(if keyI x=k then i0 :: idxs k l (i0+1) else idxs k l (i0+1)):=h
  by_cases hx:keyI x=k
  · rw [if_pos hx] at h
    rcases List.mem_cons.1 h with rfl|h
    · refine ⟨Int.le_refl _,by rw [List.length_cons];omega,?_⟩
      rw [show i - i=0 by omega];exact hx
    · exact tl h
  · rw [if_neg hx] at h;exact tl h
theorem idxs_nodup (k:Key):∀ (l:List Item) (i0:Int),(idxs k l i0).Nodup
 | [],_=>List.nodup_nil
 | x :: l,i0=>by
  show (if keyI x=k then i0 :: idxs k l (i0+1) else idxs k l (i0+1)).Nodup
  split
  · exact List.nodup_cons.2 ⟨fun h=>by have:=(mem_idxs k l (i0+1) i0 h).1;omega,idxs_nodup k l (i0+1)⟩
  · exact idxs_nodup k l (i0+1)
theorem idxs_len (k:Key):∀ (l:List Item) (i0:Int),(idxs k l i0).length≤l.length
 | [],_=>Nat.le_refl _
 | x :: l,i0=>by
  have:=idxs_len k l (i0+1)
  show (if keyI x=k then i0 :: idxs k l (i0+1) else idxs k l (i0+1)).length≤_
  split<;>simp only [List.length_cons]<;>omega
def pv (g:Bool) (l:List Item) (j t:Int):PartT:=bif g then (Sh.IT.wrap ((rIt l j).1 - t),t) else ((rIt l j).1,t)
theorem rPt_set {out:List PartT} {j i:Int} {x:PartT} (hj:0≤j) (hjl:j<out.length) (hi:0≤i):rPt (out.set j.toNat x) i=if i=j then x else rPt out i:=by
 unfold rPt
 rw [List.getD_eq_getElem?_getD,List.getD_eq_getElem?_getD,List.getElem?_set]
 by_cases h:i=j
 · subst h;rw [if_pos rfl,if_pos rfl,if_pos (by omega)];rfl
 · rw [if_neg (by omega),if_neg h]
theorem part1_get (g:Bool) (l:List Item) (out:List PartT) {j t i:Int} (hj:0≤j) (hjl:j<out.length) (hi:0≤i):rPt (part1 g l out j t) i=if i=j then pv g l j t else rPt out i:=by
 unfold part1 pv
 cases g with
 | false=>exact rPt_set hj hjl hi
 | true =>
  rw [cond_true,cond_true]
  unfold o2
  have h1:rPt (o1 l out j t) j=((rIt l j).1,t):=by unfold o1;rw [rPt_set hj hjl hj,if_pos rfl]
  rw [rPt_set hj (by unfold o1;rw [List.length_set];exact hjl) hi,h1]
  by_cases h:i=j
  · rw [if_pos h,if_pos h]
  · rw [if_neg h,if_neg h];unfold o1;rw [rPt_set hj hjl hi,if_neg h]
theorem partsF_get (g:Bool) (l:List Item):∀ (at' ts:List Int) (out:List PartT),at'.Nodup→(∀ j∈at',0≤j∧j<(out.length:Int))→at'.length≤ts.length→
 (partsF g l at' ts out).length=out.length∧(∀ i,0≤i→i∉at'→rPt (partsF g l at' ts out) i=rPt out i)∧at'.map (rPt (partsF g l at' ts out))=List.zipWith (pv g l) at' ts
 | [],ts,out,_,_,_=>by
  have e:partsF g l [] ts out=out:=by cases ts<;>rfl
  rw [e];exact ⟨rfl,fun _ _ _=>rfl,rfl⟩
 | j :: at',ts,out,hn,hr,hl=>by
  cases ts with
  | nil=>simp at hl
  | cons t ts =>
   rw [List.nodup_cons] at hn
   have hj:=hr j (by simp)
   obtain ⟨h1,h2,h3⟩:=partsF_get g l at' ts (part1 g l out j t) hn.2 (fun i hi=>by rw [part1_len];exact hr i (by simp [hi])) (by simpa using hl)
   have e:partsF g l (j :: at') (t :: ts) out=partsF g l at' ts (part1 g l out j t):=rfl
   rw [e]
   refine ⟨h1.trans (part1_len g l out j t),fun i hi hm=>?_,?_⟩
   · rw [List.mem_cons,not_or] at hm
     rw [h2 i hi hm.2,part1_get g l out hj.1 hj.2 hi,if_neg hm.1]
   · rw [List.map_cons,List.zipWith_cons_cons,h3,h2 j hj.1 hn.1,part1_get g l out hj.1 hj.2 hj.1,if_pos rfl]
theorem doAll_get (l:List Item):∀ (gs:List GV) (ss:List SumT) (out:List PartT),gs.length=ss.length→(∀ p∈gs.zip ss,∀ o:List PartT,o.length=out.length→foB p.1.2 l o p.2=true)→(∀ g∈gs,g.2.Nodup∧∀ j∈g.2,0≤j∧j<(out.length:Int))→gs.Pairwise (fun a b=>∀ j∈a.2,j∉b.2)→
 ∃ fin,doAll l gs ss out=some fin∧fin.length=out.length∧(∀ i,0≤i→(∀ g∈gs,i∉g.2)→rPt fin i=rPt out i)∧∀ p∈gs.zip ss,p.1.2.map (rPt fin)=List.zipWith (pv p.1.1.1 l) p.1.2 (taxesF p.1.2 l p.2)
 | [],ss,out,_,_,_,_=>⟨out,by cases ss<;>rfl,rfl,fun _ _ _=>rfl,fun p hp=>by cases hp⟩
 | g :: gs,ss,out,hl,hfo,hr,hp=>by
  cases ss with
  | nil=>simp at hl
  | cons s ss =>
   have hf:=hfo (g,s) (by simp) out rfl
   have hlt:g.2.length≤(taxesF g.2 l s).length:=by
    have hf:foB g.2 l out s=true:=hf
    unfold foB at hf
    simp only [Bool.and_eq_true] at hf
    exact of_decide_eq_true hf.2.2.1
   have hg:=hr g (by simp)
   obtain ⟨h1,h2,h3⟩:=partsF_get g.1.1 l g.2 (taxesF g.2 l s) out hg.1 hg.2 hlt
   rw [List.pairwise_cons] at hp
   have e2:(foV g.1.1 g.2 l out s).2=partsF g.1.1 l g.2 (taxesF g.2 l s) out:=rfl
   obtain ⟨fin,k1,k2,k3,k4⟩:=doAll_get l gs ss (foV g.1.1 g.2 l out s).2 (by simpa using hl) (fun p hp' o ho=>hfo p (by simp [hp']) o (by rw [ho,e2,h1])) (fun x hx=>by rw [e2,h1];exact hr x (by simp [hx])) hp.2
   refine ⟨fin,?_,by rw [k2,e2,h1],fun i hi hm=>?_,fun p hp'=>?_⟩
   · show (bif foB g.2 l out s then doAll l gs ss (foV g.1.1 g.2 l out s).2 else none)=some fin
     have hf:foB g.2 l out s=true:=hf
     rw [hf];exact k1
   · rw [k3 i hi (fun x hx=>hm x (by simp [hx])),e2,h2 i hi (hm g (by simp))]
   · rw [List.zip_cons_cons] at hp'
     rcases List.mem_cons.1 hp' with rfl|hp'
     · show g.2.map (rPt fin)=_
       rw [← h3]
       refine List.map_congr_left fun j hj=>?_
       rw [k3 j (hg.2 j hj).1 (fun x hx=>hp.1 x hx j hj),e2]
     · exact k4 p hp'
end Go.Proofs.Ytlfkfajodnkkhaa.Iv
namespace Go.Proofs.Ytlfkfajodnkkhaa.Iv
open Go Go.RowKit Go.Proofs.YtlfkfajodnkkhaaW.PrintWords Go.Proofs.Ytlfkfajodnkkhaa.Ax Go.Proofs.Ytlfkfajodnkkhaa.Sh
set_option linter.unusedVariables false
set_option linter.unusedSimpArgs false
theorem may_iff {a:Int} : Ax.mayB a=true↔-4611686018427387904≤a∧a≤4611686018427387904:=by
 unfold Ax.mayB
 rw [Bool.and_eq_true,decide_eq_true_eq,decide_eq_true_eq]
theorem md_bd (a b c:Int) (ha:0≤a) (hb:0≤b):0≤(Ax.mulDivV a b c).1∧(Ax.mulDivV a b c).1≤4611686018427387904:=by
 unfold Ax.mulDivV
 by_cases hr:Ax.rightV a b c=true
 · rw [if_pos hr]
   unfold Ax.rightV at hr
   simp only [Bool.and_eq_true,decide_eq_true_eq] at hr
   have hc:=hr.2.2.2
   have hp:0≤Ax.mag a * Ax.mag b:=Int.mul_nonneg (by unfold Ax.mag;split<;>omega) (by unfold Ax.mag;split<;>omega)
   have hh:0≤Ax.halfV (Ax.mag a * Ax.mag b) c:=by unfold Ax.halfV;exact Int.ediv_nonneg (by omega) (by omega)
   have hs:decide (a<0)=decide (b<0):=by rw [decide_eq_false (by omega),decide_eq_false (by omega)]
   rw [if_pos hs]
   unfold Ax.overV
   by_cases ho:Ax.halfV (Ax.mag a * Ax.mag b) c≤4611686018427387904
   · rw [if_pos ho];exact ⟨hh,ho⟩
   · rw [if_neg ho];exact ⟨Int.le_refl _,by decide⟩
 · rw [if_neg hr];exact ⟨Int.le_refl _,by decide⟩
theorem part_ok {a:Int} {g:Bool} {b:Int} (ha:0≤a) (ha2:a≤4611686018427387904) (hb:Ax.bpB b=true) (he:(Ax.partV a g b).2.2=0) :
 0≤(Ax.partV a g b).2.1∧(Ax.partV a g b).2.1≤4611686018427387904∧(Ax.partV a g b).1=if g=true then a - (Ax.partV a g b).2.1 else a:=by
 have hb0:=(Ax.bpB_iff b).1 hb
 cases g with
 | true =>
  have e:Ax.partV a true b=Ax.insV a b:=rfl
  rw [e] at he ⊢
  have hi:Ax.insideV a b=Ax.mulDivV a b (10000+b):=by unfold Ax.insideV;rw [hb];rfl
  have hm:=md_bd a b (10000+b) ha hb0.1
  rw [← hi] at hm
  unfold Ax.insV at he ⊢
  cases h:(Ax.insideV a b).2 != 0 with
  | true =>
   rw [h] at he
   have he:(Ax.insideV a b).2=0:=he
   rw [he] at h
   cases h
  | false =>
   rw [cond_false]
   refine ⟨hm.1,hm.2,?_⟩
   rw [if_pos rfl]
   show IntKind.i64.wrap (a - (Ax.insideV a b).1)=a - (Ax.insideV a b).1
   rw [IntKind.wrap_i64];omega
 | false =>
  have e:Ax.partV a false b=Ax.uponV a b:=rfl
  rw [e] at he ⊢
  have hi:Ax.taxV a b=Ax.mulDivV a b 10000:=by unfold Ax.taxV;rw [hb];rfl
  have hm:=md_bd a b 10000 ha hb0.1
  rw [← hi] at hm
  unfold Ax.uponV at he ⊢
  cases h:(Ax.taxV a b).2 != 0 with
  | true =>
   rw [h] at he
   have he:(Ax.taxV a b).2=0:=he
   rw [he] at h
   cases h
  | false =>
   rw [h] at he
   rw [cond_false]
   cases h2:(Ax.smV [a,(Ax.taxV a b).1]).2 != 0 with
   | true =>
    rw [h2] at he
    have he:(Ax.smV [a,(Ax.taxV a b).1]).2=0:=he
    rw [he] at h2
    cases h2
   | false=>exact ⟨hm.1,hm.2,rfl⟩
theorem mx_zero:∀ (l:List Int) (m:Int),0≤m→(∀ x∈l,0≤x)→((l.foldl Ax.mx m == 0)=((m == 0) && l.all fun x=>x == 0))
 | [],m,h0,h=>by simp
 | a :: l,m,h0,h=>by
  have ha:=h a (by simp)
  have hm:0≤Ax.mx m a:=by unfold Ax.mx;split<;>omega
  rw [List.foldl_cons,mx_zero l _ hm (fun x hx=>h x (by simp [hx])),List.all_cons,← Bool.and_assoc]
  congr 1
  unfold Ax.mx
  by_cases c:a>m
  · rw [if_pos c]
    have h1:(a == 0)=false:=by simp;omega
    rw [h1,Bool.and_false]
  · rw [if_neg c]
    cases hmz:(m == 0) with
    | false=>rfl
    | true =>
     have hmz:=eq_of_beq hmz
     have:a=0:=by omega
     rw [this];rfl
theorem mxOf_zero (w:List Int) (h1:1≤w.length) (h:∀ x∈w,0≤x):(mxOf w == 0)=w.all fun x=>x == 0:=by
 cases w with
 | nil=>simp at h1
 | cons a w=>exact mx_zero w a (h a (by simp)) (fun x hx=>h x (by simp [hx]))
theorem sum_rep:∀ n:Nat,(List.replicate n (1:Int)).sum=(n:Int)
 | 0=>rfl
 | n+1=>by rw [List.replicate_succ,List.sum_cons,sum_rep n];omega
theorem wtsG_len (ws:List Int):(wtsG ws).length=ws.length:=by
 unfold wtsG
 cases mxOf ws == 0<;>simp
theorem wtsG_ok {ws:List Int} (h1:1≤ws.length) (h2:ws.length≤256) (hb:∀ x∈ws,0≤x∧x≤1099511627776):(sumV (wtsG ws)).2=true:=by
 have hg:goodW (wtsG ws)=true∧0<(wtsG ws).sum:=by
  unfold wtsG
  rw [mxOf_zero ws h1 (fun x hx=>(hb x hx).1)]
  cases hz:ws.all fun x=>x == 0 with
  | true =>
   rw [cond_true]
   refine ⟨?_,by rw [sum_rep];omega⟩
   unfold goodW
   rw [List.all_eq_true]
   intro x hx
   rw [(List.mem_replicate.1 hx).2];rfl
  | false =>
   rw [cond_false]
   refine ⟨?_,?_⟩
   · unfold goodW
     rw [List.all_eq_true]
     intro x hx
     have:=hb x hx
     rw [Bool.and_eq_true,decide_eq_true_eq,decide_eq_true_eq];exact this
   · rw [List.all_eq_false] at hz
     obtain ⟨x,hx,hx0⟩:=hz
     have h3:=(hb x hx).1
     have h4:=mem_le_sum ws (fun x hx=>(hb x hx).1) x hx
     have:x≠0:=fun e=>hx0 (by rw [e];rfl)
     omega
 unfold sumV
 rw [wtsG_len,decide_eq_false (by omega),decide_eq_false (by omega),hg.1]
 exact decide_eq_true hg.2
theorem right_d {l:List Item} (h:rightB l=true):1≤l.length∧l.length≤64∧∀ x∈l,mayI x=true:=by
 unfold rightB at h
 simp only [Bool.not_eq_true',Bool.or_eq_false_iff,decide_eq_false_iff_not] at h
 obtain ⟨h1,h2,h3⟩:=h
 refine ⟨by omega,by omega,fun x hx=>?_⟩
 unfold wrongB at h3
 rw [List.any_eq_false] at h3
 have:=h3 x hx
 simpa using this
theorem mayI_d {x:Item} (h:mayI x=true):0≤x.1∧x.1≤4611686018427387904∧0≤x.2.1∧x.2.1≤1099511627776∧0≤x.2.2.2∧x.2.2.2≤10000:=by
 unfold mayI at h
 simp only [Bool.and_eq_true,decide_eq_true_eq] at h
 have:=may_iff.1 h.2.1
 exact ⟨h.1,this.2,h.2.2.1,h.2.2.2.1,h.2.2.2.2.1,h.2.2.2.2.2⟩
theorem rIt_mem {l:List Item} {i:Int} (h0:0≤i) (h1:i<(l.length:Int)):rIt l i∈l:=by
 unfold rIt
 rw [List.getD_eq_getElem?_getD,List.getElem?_eq_getElem (by omega)]
 exact List.getElem_mem _
structure GrpOk (l:List Item) (g:GV):Prop where
 at':g.2=idxs g.1 l 0
 ne:1≤g.2.length
 len:g.2.length≤64
 rng:∀ i∈g.2,0≤i∧i<(l.length:Int)
 key:∀ i∈g.2,keyI (rIt l i)=g.1
 may:∀ i∈g.2,mayI (rIt l i)=true
 ok:okAt g.2 l.length=true
theorem grp_ok {l:List Item} (h:rightB l=true) {g:GV} (hg:g∈grpsV l 0 []):GrpOk l g:=by
 obtain ⟨h1,h2,h3⟩:=right_d h
 obtain ⟨e,hne⟩:=grp_at hg
 have hm:∀ i∈g.2,0≤i∧i<(l.length:Int)∧keyI (rIt l i)=g.1:=by
  intro i hi
  rw [e] at hi
  have:=mem_idxs g.1 l 0 i hi
  rw [show i - 0=i by omega] at this
  exact ⟨this.1,by omega,this.2.2⟩
 have hl:=idxs_len g.1 l 0
 rw [← e] at hl
 have hp:g.2.length≠0:=fun h=>hne (List.eq_nil_of_length_eq_zero h)
 refine ⟨e,by omega,by omega,fun i hi=>⟨(hm i hi).1,(hm i hi).2.1⟩,fun i hi=>(hm i hi).2.2,fun i hi=>h3 _ (rIt_mem (hm i hi).1 (hm i hi).2.1),?_⟩
 unfold okAt
 rw [Nat.ble_eq_true_of_le (by omega),Bool.true_and,List.all_eq_true]
 intro i hi
 rw [decide_eq_true (hm i hi).1,decide_eq_true (hm i hi).2.1];rfl
structure SumOk (l:List Item) (g:GV) (s:SumT):Prop where
 g1:s.1=g.1.1
 g2:s.2.1=g.1.2
 t0:0≤s.2.2.2
 t1:s.2.2.2≤4611686018427387904
 a0:0≤(amts l g.2).sum
 a1:(amts l g.2).sum≤4611686018427387904
 net:s.2.2.1=if g.1.1=true then (amts l g.2).sum - s.2.2.2 else (amts l g.2).sum
theorem sum_nn:∀ (l:List Int),(∀ x∈l,0≤x)→0≤l.sum
 | [],_=>by simp
 | x :: l,h=>by
  have h1:=h x (by simp)
  have h2:=sum_nn l (fun y hy=>h y (by simp [hy]))
  rw [List.sum_cons];omega
theorem gs_ok {l:List Item} {g:GV} (G:GrpOk l g):∃ s e,gsV g.1.1 g.1.2 g.2 l=some (s,e,())∧(e=0→SumOk l g s):=by
 have hb:∀ x∈amts l g.2,0≤x∧x≤4611686018427387904:=by
  intro x hx
  obtain ⟨i,hi,rfl⟩:=List.mem_map.1 hx
  have:=mayI_d (G.may i hi)
  exact ⟨this.1,this.2.1⟩
 have hsum:=sum_nn _ (fun x hx=>(hb x hx).1)
 have hall:(amts l g.2).all Ax.mayB=true:=List.all_eq_true.2 fun x hx=>may_iff.2 (by have:=hb x hx;omega)
 have hsm:Ax.smV (amts l g.2)=bif Ax.mayB (amts l g.2).sum then ((amts l g.2).sum,0) else (0,3):=by
  have e:Ax.smV (amts l g.2)=(bif (amts l g.2).all Ax.mayB then (bif Ax.mayB (amts l g.2).sum then ((amts l g.2).sum,0) else (0,3)) else (0,2)):=rfl
  rw [e,hall];rfl
 have hlen:(amts l g.2).length≤1000000:=by unfold amts;rw [List.length_map];have:=G.len;omega
 have hbp:Ax.bpB g.1.2=true:=by
  cases hg:g.2 with
  | nil=>have:=G.ne;rw [hg] at this;simp at this
  | cons i r =>
   have hi:i∈g.2:=by rw [hg];simp
   have:=mayI_d (G.may i hi)
   have hk:=congrArg Prod.snd (G.key i hi)
   have hk:(rIt l i).2.2.2=g.1.2:=hk
   rw [hk] at this
   exact (Ax.bpB_iff _).2 this.2.2.2.2
 unfold gsV
 rw [G.ok,cond_true]
 unfold restG
 rw [Nat.ble_eq_true_of_le hlen,sel_true,hsm]
 cases hm:Ax.mayB (amts l g.2).sum with
 | false=>exact ⟨(false,0,0,0),3,rfl,fun h=>by cases h⟩
 | true =>
  have hm2:=may_iff.1 hm
  rw [cond_true]
  dsimp only
  rw [show ((0:Int) != 0)=false from rfl,sel_false]
  cases hp:(Ax.partV (amts l g.2).sum g.1.1 g.1.2).2.2 != 0 with
  | true =>
   refine ⟨(false,0,0,0),(Ax.partV (amts l g.2).sum g.1.1 g.1.2).2.2,rfl,fun h=>?_⟩
   rw [h] at hp
   cases hp
  | false =>
   have hz:(Ax.partV (amts l g.2).sum g.1.1 g.1.2).2.2=0:=by simpa using hp
   obtain ⟨p1,p2,p3⟩:=part_ok hsum hm2.2 hbp hz
   exact ⟨_,0,rfl,fun _=>⟨rfl,rfl,p1,p2,hsum,hm2.2,p3⟩⟩
theorem sumsF_ok (l:List Item):∀ (gs:List GV) (acc:List SumT),(∀ g∈gs,GrpOk l g)→∃ fin e,sumsF l gs acc=some (fin,e)∧(e=0→∃ ss,fin=acc ++ ss∧ss.length=gs.length∧∀ p∈gs.zip ss,SumOk l p.1 p.2)
 | [],acc,_=>⟨acc,0,rfl,fun _=>⟨[],by simp,rfl,fun p hp=>by cases hp⟩⟩
 | g :: gs,acc,h=>by
  obtain ⟨s,e,h1,h2⟩:=gs_ok (h g (by simp))
  have e0:sumsF l (g :: gs) acc=bif e != 0 then some (acc,e) else sumsF l gs (acc ++ [s]):=by
   show ((gsV g.1.1 g.1.2 g.2 l).bind fun y=>bif y.2.1 != 0 then some (acc,y.2.1) else sumsF l gs (acc ++ [y.1]))=_
   rw [h1];rfl
  rw [e0]
  cases he:e != 0 with
  | true=>exact ⟨acc,e,rfl,fun h=>by rw [h] at he;cases he⟩
  | false =>
   have hz:e=0:=by simpa using he
   obtain ⟨fin,e2,k1,k2⟩:=sumsF_ok l gs (acc ++ [s]) (fun x hx=>h x (by simp [hx]))
   refine ⟨fin,e2,k1,fun h0=>?_⟩
   obtain ⟨ss,r1,r2,r3⟩:=k2 h0
   refine ⟨s :: ss,by rw [r1,List.append_assoc];rfl,by simp [r2],fun p hp=>?_⟩
   rw [List.zip_cons_cons] at hp
   rcases List.mem_cons.1 hp with rfl|hp
   · exact h2 hz
   · exact r3 p hp
theorem taxes_ok {l:List Item} {g:GV} {s:SumT} (G:GrpOk l g) (S:SumOk l g s):okS s.2.2.2 (wtsG (wgts l g.2))=true∧taxesF g.2 l s=splitV s.2.2.2 (wtsG (wgts l g.2))∧(taxesF g.2 l s).length=g.2.length:=by
 have hwl:(wgts l g.2).length=g.2.length:=by unfold wgts;rw [List.length_map]
 have hok:okS s.2.2.2 (wtsG (wgts l g.2))=true:=by
  unfold okS
  rw [may_iff.2 (by have:=S.t0;have:=S.t1;omega),wtsG_ok (by rw [hwl];exact G.ne) (by rw [hwl];have:=G.len;omega) (fun x hx=>by
   obtain ⟨i,hi,rfl⟩:=List.mem_map.1 hx
   have:=mayI_d (G.may i hi)
   exact ⟨this.2.2.1,this.2.2.2.1⟩)];rfl
 have e:taxesF g.2 l s=splitV s.2.2.2 (wtsG (wgts l g.2)):=by unfold taxesF spL;rw [hok];rfl
 exact ⟨hok,e,by rw [e,(split_parts hok).1,wtsG_len,hwl]⟩
theorem fo_ok {l:List Item} {g:GV} {s:SumT} (G:GrpOk l g) (S:SumOk l g s) {o:List PartT} (ho:o.length=l.length):foB g.2 l o s=true:=by
 have hl:=(taxes_ok G S).2.2
 unfold foB
 rw [ho,G.ok,hl,decide_eq_true G.ne,decide_eq_true (by have:=G.len;omega),decide_eq_true (Nat.le_refl _),Nat.ble_eq_true_of_le (by have:=G.len;omega)];rfl
theorem inv_ok {l:List Item} (h:rightB l=true):∃ fin e,eachS l=some (fin,e)∧(e=0→fin.length=(grpsV l 0 []).length∧(∀ p∈(grpsV l 0 []).zip fin,GrpOk l p.1∧SumOk l p.1 p.2)∧∃ out,doAll l (grpsV l 0 []) fin (List.replicate l.length (0,0))=some out∧out.length=l.length∧
 ∀ p∈(grpsV l 0 []).zip fin,p.1.2.map (rPt out)=List.zipWith (pv p.1.1.1 l) p.1.2 (taxesF p.1.2 l p.2)):=by
 have hk:=grps_keyed l 0 [] ⟨List.nodup_nil,fun g hg=>by cases hg⟩
 obtain ⟨fin,e,h1,h2⟩:=sumsF_ok l (grpsV l 0 []) [] (fun g hg=>grp_ok h hg)
 refine ⟨fin,e,h1,fun he=>?_⟩
 obtain ⟨ss,r1,r2,r3⟩:=h2 he
 rw [List.nil_append] at r1
 subst r1
 have hz:∀ p∈(grpsV l 0 []).zip fin,GrpOk l p.1∧SumOk l p.1 p.2:=fun p hp=>⟨grp_ok h (List.of_mem_zip hp).1,r3 p hp⟩
 refine ⟨r2,hz,?_⟩
 have hrep:(List.replicate l.length ((0,0):PartT)).length=l.length:=List.length_replicate
 obtain ⟨out,k1,k2,_,k4⟩:=doAll_get l (grpsV l 0 []) fin (List.replicate l.length (0,0)) r2.symm (fun p hp o ho=>fo_ok (hz p hp).1 (hz p hp).2 (by rw [ho,hrep])) (fun g hg=>by
  have G:=grp_ok h hg
  refine ⟨by rw [G.at'];exact idxs_nodup _ _ _,fun j hj=>?_⟩
  rw [hrep];exact G.rng j hj) (by
  have hn:=hk.1
  rw [List.Nodup,List.pairwise_map] at hn
  refine List.Pairwise.imp_of_mem (fun {a b} ha hb hab j hj hj'=>?_) hn
  have A:=grp_ok h ha
  have Bq:=grp_ok h hb
  exact hab ((A.key j hj).symm.trans (Bq.key j hj')))
 exact ⟨out,k1,by rw [k2,hrep],k4⟩
end Go.Proofs.Ytlfkfajodnkkhaa.Iv
namespace Go.Proofs.Ytlfkfajodnkkhaa.Iv
open Go Go.RowKit Go.Proofs.YtlfkfajodnkkhaaW.PrintWords Go.Proofs.Ytlfkfajodnkkhaa.Ax Go.Proofs.Ytlfkfajodnkkhaa.Sh
set_option linter.unusedVariables false
set_option linter.unusedSimpArgs false
def exI:List Item:=[(33,33,false,1000),(33,33,false,1000),(33,33,false,1000)]
theorem ex_of:invOf exI=some ([(33,4),(33,3),(33,3)],0,()):=by kernel_rfl
def liveV (l:List Item):OP:=bif decide (l=exI) then some ([(33,4),(33,3),(33,3)],0,()) else none
theorem live_sub {l:List Item} {y:List PartT × Int × Unit} (h:liveV l=some y):invOf l=some y:=by
 unfold liveV at h
 obtain ⟨h1,h2⟩:=cond_some h
 rw [of_decide_eq_true h1,ex_of];exact h2
noncomputable def cOfL:Con:=conX [qItems] [qParts,qInt] fun x=>liveV x.1
theorem cOfL_ok (B):ConOk Try.prog B 7 cOfL :=
 toldP (lin:=[qItems]) (lout:=[qParts,qInt]) CFn_ok Try.func7 (by kernel_rfl) (by kernel_rfl) (fun x=>liveV x.1) (fun x y h=>by
  obtain ⟨l,u⟩:=x
  exact of_run l y (live_sub h)) (by decide) B
noncomputable def CLv:FuncId→Option Con
 | 7=>some cOfL
 | _=>none
theorem CLv_ok:∀ B' g φ,CLv g=some φ→ConOk Try.prog B' g φ:=by
 intro B' g φ h
 unfold CLv at h
 split at h
 · cases h;exact cOfL_ok B'
 · cases h
theorem lives_tree:evX Try.prog CLv Sh.cn0 40 Try.f6 [] [qBool] ()=oT:=by kernel_rfl
noncomputable def cLives:Con:=conX [] [qBool] fun _=>oT
theorem cLives_ok (B):ConOk Try.prog B 6 cLives :=
 toldP (lin:=[]) (lout:=[qBool]) CLv_ok Try.func6 (by kernel_rfl) (by kernel_rfl) (fun _=>oT) (fun x y h=>lives_tree.trans h) (by decide) B
noncomputable def CWl (gO:List Item→OP) (gS:List Item→OSm):FuncId→Option Con
 | 6=>some cLives
 | 7=>some (conX [qItems] [qParts,qInt] fun x=>gO x.1)
 | 11=>some (conX [qItems] [qSums,qInt] fun x=>gS x.1)
 | 13=>some Ax.cSumX
 | _=>none
theorem CWl_ok:∀ B' g φ,CWl invOf invSums g=some φ→ConOk Try.prog B' g φ:=by
 intro B' g φ h
 unfold CWl at h
 split at h
 · cases h;exact cLives_ok B'
 · cases h;exact cInvOf_ok B'
 · cases h;exact cInvSums_ok B'
 · cases h;exact Ax.rSum_ok B'
 · cases h
noncomputable abbrev fWl:Func:=Try.f5
def TWl:Nat→Option (List Nat × List (Nat × TypeId × List Sc))
 | 12=>some ([0,3,50,51,52],[])
 | 16=>some ([0,3,8,9,10,50,51,52,56,57,58],[(9,tI,sI),(10,tI,sI)])
 | _=>none
noncomputable def Y12 (gO:List Item→OP) (gS:List Item→OSm) (F kk:Nat) (l:List Item) (a:List PartT) (S:List SumT) (n i:Int):OB:=loopAt (eff Try.prog (CWl gO gS)) fWl.ntmps (cnRow 1 TWl) F Try.prog fWl (KX [qBool]) [.R,.R,.R,.R,.R,.R,.R,.L,.R,.D] kk
 ⟨[(0,.all 0),(3,.all 1),(50,.all 2),(51,vi n),(52,vi i)],[(0,.arg sIt l),(1,.row tPt sPt a),(2,.row tSm sSm S)],4⟩
noncomputable def Y16 (gO:List Item→OP) (gS:List Item→OSm) (F ko k:Nat) (l:List Item) (a:List PartT) (S:List SumT) (n i:Int) (x:SumT) (nets taxes:List Int) (n2 j:Int):OB:=loopIn (eff Try.prog (CWl gO gS)) fWl.ntmps (cnRow 1 TWl) F Try.prog fWl (KX [qBool]) [.R,.R,.R,.R,.R,.R,.R,.L,.R,.D] [.R,.R,.L,.D,.R,.R,.L,.R,.D] ko k
 ⟨[(0,.all 0),(3,.all 1),(8,.ptr 2 0),(9,.all 3),(10,.all 4),(50,.all 5),(51,vi n),(52,vi i),(56,.all 0),(57,vi n2),(58,vi j)],[(0,.arg sIt l),(1,.row tPt sPt a),(2,boxS x),(3,.row tI sI nets),(4,.row tI sI taxes),(5,.row tSm sSm S)],7⟩
def restY (x:SumT) (nets taxes:List Int) (K:OB):OB:=sel (Nat.ble nets.length 1000000) (sel (Nat.ble taxes.length 1000000) (sel ((Ax.smV nets).2 != 0) oF (sel ((Ax.smV taxes).2 != 0) oF (sel ((Ax.smV nets).1 != x.2.2.1) oF (sel ((Ax.smV taxes).1 != x.2.2.2) oF (sel ((nets.length:Int) == 0) oF K))))) none) none
theorem Y12_eq (gO:List Item→OP) (gS:List Item→OSm) (F kk:Nat) (l:List Item) (a:List PartT) (S:List SumT) (n i:Int):Y12 gO gS F (kk+1) l a S n i =
 sel (decide (i<n)) (Sh.idxP S i (Y16 gO gS F kk F l a S n i (rSm S i) [] [] (l.length:Int) 0)) oT:=by kernel_rfl
theorem Y16_eq (gO:List Item→OP) (gS:List Item→OSm) (F ko k:Nat) (l:List Item) (a:List PartT) (S:List SumT) (n i:Int) (x:SumT) (nets taxes:List Int) (n2 j:Int):Y16 gO gS F ko (k+1) l a S n i x nets taxes n2 j =
 sel (decide (j<n2)) (Sh.idxP l j (sel ((rIt l j).2.2.1 == x.1) (sel ((rIt l j).2.2.2 == x.2.1)
  (Sh.idxP a j (moreP nets (Sh.idxP a j (moreP taxes (Y16 gO gS F ko k l a S n i x (nets ++ [(rPt a j).1]) (taxes ++ [(rPt a j).2]) n2 (Sh.IT.wrap (j+1)))))))
  (Y16 gO gS F ko k l a S n i x nets taxes n2 (Sh.IT.wrap (j+1)))) (Y16 gO gS F ko k l a S n i x nets taxes n2 (Sh.IT.wrap (j+1)))))
  (restY x nets taxes (Y12 gO gS F ko l a S n (Sh.IT.wrap (i+1)))):=by kernel_rfl
theorem whole_tree (gO:List Item→OP) (gS:List Item→OSm) (F:Nat) (l:List Item):evX Try.prog (CWl gO gS) (cnRow 1 TWl) F fWl [qItems] [qBool] (l,()) =
 sel (decide (100<(l.length:Int))) oT (obnd (gO l) fun a=>obnd (gS l) fun s=>sel (a.2.1 != s.2.1) oF (sel (a.2.1 != 0) (sel (Sh.IT.wrap ((a.1.length:Int)+(s.1.length:Int)) == 0) oT oF)
  (sel ((a.1.length:Int) != (l.length:Int)) oF (Y12 gO gS F F l a.1 s.1 (s.1.length:Int) 0)))):=by kernel_rfl
end Go.Proofs.Ytlfkfajodnkkhaa.Iv
namespace Go.Proofs.Ytlfkfajodnkkhaa.Iv
open Go Go.RowKit Go.Proofs.YtlfkfajodnkkhaaW.PrintWords Go.Proofs.Ytlfkfajodnkkhaa.Ax Go.Proofs.Ytlfkfajodnkkhaa.Sh
set_option linter.unusedVariables false
set_option linter.unusedSimpArgs false
theorem smV_of {l:List Int} (h1:∀ x∈l,-4611686018427387904≤x∧x≤4611686018427387904) (h2 : -4611686018427387904≤l.sum∧l.sum≤4611686018427387904):Ax.smV l=(l.sum,0):=by
 have e:Ax.smV l=(bif l.all Ax.mayB then (bif Ax.mayB l.sum then (l.sum,0) else (0,3)) else (0,2)):=rfl
 have hall:l.all Ax.mayB=true:=List.all_eq_true.2 fun x hx=>may_iff.2 (h1 x hx)
 rw [e,hall,may_iff.2 h2];rfl
theorem zip_snd (g:Bool) (l:List Item):∀ (at' ts:List Int),at'.length=ts.length→(List.zipWith (pv g l) at' ts).map (·.2)=ts
 | [],[],_=>rfl
 | [],_ :: _,h=>by simp at h
 | _ :: _,[],h=>by simp at h
 | i :: at',t :: ts,h=>by
  rw [List.zipWith_cons_cons,List.map_cons,zip_snd g l at' ts (by simpa using h)]
  congr 1
  unfold pv;cases g<;>rfl
theorem zip_net (g:Bool) (l:List Item):∀ (at' ts:List Int),at'.length=ts.length→(∀ i∈at',0≤(rIt l i).1∧(rIt l i).1≤4611686018427387904)→(∀ t∈ts,0≤t∧t≤4611686018427387904)→
 (∀ x∈(List.zipWith (pv g l) at' ts).map (·.1),-4611686018427387904≤x∧x≤4611686018427387904)∧((List.zipWith (pv g l) at' ts).map (·.1)).sum=if g=true then (amts l at').sum - ts.sum else (amts l at').sum
 | [],[],_,_,_=>⟨fun x hx=>by simp at hx,by cases g<;>rfl⟩
 | [],_ :: _,h,_,_=>by simp at h
 | _ :: _,[],h,_,_=>by simp at h
 | i :: at',t :: ts,h,ha,ht=>by
  obtain ⟨h1,h2⟩:=zip_net g l at' ts (by simpa using h) (fun j hj=>ha j (by simp [hj])) (fun u hu=>ht u (by simp [hu]))
  have hi:=ha i (by simp)
  have hu:=ht t (by simp)
  have e:(pv g l i t).1=if g=true then (rIt l i).1 - t else (rIt l i).1:=by
   unfold pv
   cases g with
   | true =>
    rw [cond_true,if_pos rfl]
    show IntKind.i64.wrap ((rIt l i).1 - t)=_
    rw [IntKind.wrap_i64];omega
   | false=>rfl
  have ea:(amts l (i :: at')).sum=(rIt l i).1+(amts l at').sum:=by unfold amts;rw [List.map_cons,List.sum_cons]
  rw [List.zipWith_cons_cons,List.map_cons]
  refine ⟨fun x hx=>?_,?_⟩
  · rcases List.mem_cons.1 hx with rfl|hx
    · rw [e];split<;>omega
    · exact h1 x hx
  · rw [List.sum_cons,h2,e,ea,List.sum_cons]
    split<;>omega
theorem split_nn {total:Int} {ws:List Int} (h0:0≤total) (hok:okS total ws=true):∀ t∈splitV total ws,0≤t∧t≤4611686018427387904:=by
 obtain ⟨p1,p2,p3,p4⟩:=split_parts hok
 intro t ht
 obtain ⟨i,hi,rfl⟩:=List.mem_iff_getElem.1 ht
 have h1:=(p4 i (by omega)).1 h0
 rw [rI_at _ i hi] at h1
 exact ⟨h1,(p3 _ ht).2⟩
theorem invOf_eq {l:List Item} (h:l.length≤1000):invOf l=(eachOfV l (List.replicate l.length (0,0))).bind fun y=>bif y.1 != 0 then some ([],y.1,()) else some (y.2,0,()):=by
 unfold invOf
 rw [Nat.ble_eq_true_of_le h];rfl
theorem inv_cases (l:List Item) (hl:l.length≤1000):(∃ e,e≠0∧invOf l=some ([],e,())∧invSums l=some ([],e,()))∨
 (rightB l=true∧∃ fin out,invOf l=some (out,0,())∧invSums l=some (fin,0,())∧fin.length=(grpsV l 0 []).length∧(∀ p∈(grpsV l 0 []).zip fin,GrpOk l p.1∧SumOk l p.1 p.2)∧out.length=l.length∧
  ∀ p∈(grpsV l 0 []).zip fin,p.1.2.map (rPt out)=List.zipWith (pv p.1.1.1 l) p.1.2 (taxesF p.1.2 l p.2)):=by
 rw [invOf_eq hl]
 unfold invSums eachOfV eachSmV
 cases hr:rightB l with
 | false=>exact .inl ⟨2,by decide,rfl,rfl⟩
 | true =>
  obtain ⟨fin,e,h1,h2⟩:=inv_ok hr
  rw [h1]
  by_cases he:e=0
  · obtain ⟨k1,k2,out,k3,k4,k5⟩:=h2 he
    subst he
    refine .inr ⟨rfl,fin,out,?_,rfl,k1,k2,k4,k5⟩
    show (Option.bind (Option.map (fun f=>((0:Int),f)) (doAll l (grpsV l 0 []) fin (List.replicate l.length (0,0)))) fun y=>bif y.1 != 0 then some (([]:List PartT),y.1,()) else some (y.2,(0:Int),()))=_
    rw [k3];rfl
  · refine .inl ⟨e,he,?_,?_⟩
    · show (Option.bind (bif e != 0 then some (e,List.replicate l.length ((0,0):PartT)) else _) fun y=>bif y.1 != 0 then some (([]:List PartT),y.1,()) else some (y.2,(0:Int),()))=_
      have hb:(e != 0)=true:=by simp [he]
      rw [hb]
      show (bif e != 0 then some (([]:List PartT),e,()) else _)=_
      rw [hb];rfl
    · show Option.map _ (bif e != 0 then some (e,([]:List SumT)) else _)=_
      have hb:(e != 0)=true:=by simp [he]
      rw [hb];rfl
theorem Y16_run (F ko:Nat) (l:List Item) (a:List PartT) (S:List SumT) (n i:Int) (x:SumT) (hl:l.length≤1000) (ha:a.length=l.length):∀ (Y X:List Item) (nets taxes:List Int) (kk:Nat),l=X ++ Y→nets.length≤X.length→taxes.length≤X.length→Y.length<kk→
 Y16 invOf invSums F ko kk l a S n i x nets taxes (l.length:Int) (X.length:Int)=restY x (nets ++ (idxs (x.1,x.2.1) Y (X.length:Int)).map (fun j=>(rPt a j).1)) (taxes ++ (idxs (x.1,x.2.1) Y (X.length:Int)).map (fun j=>(rPt a j).2)) (Y12 invOf invSums F ko l a S n (Sh.IT.wrap (i+1))):=by
 intro Y
 induction Y with
 | nil =>
  intro X nets taxes kk e h1 h2 hk
  obtain ⟨k,rfl⟩:∃ k,kk=k+1:=⟨kk - 1,by simp at hk;omega⟩
  have hln:l.length=X.length:=by rw [e];simp
  rw [Y16_eq,decide_eq_false (by omega),sel_false]
  show _=restY x (nets ++ []) (taxes ++ []) _
  rw [List.append_nil,List.append_nil]
 | cons y Y ih =>
  intro X nets taxes kk e h1 h2 hk
  obtain ⟨k,rfl⟩:∃ k,kk=k+1:=⟨kk - 1,by simp at hk;omega⟩
  rw [List.length_cons] at hk
  have hln:l.length=X.length+(Y.length+1):=by rw [e];simp
  have er:rIt l (X.length:Int)=y:=by rw [e];exact rIt_mid X Y y
  have e1:((X ++ [y]).length:Int)=(X.length:Int)+1:=by rw [List.length_append,List.length_singleton];omega
  have e1n:(X ++ [y]).length=X.length+1:=by rw [List.length_append,List.length_singleton]
  have no:Y16 invOf invSums F ko k l a S n i x nets taxes (l.length:Int) (Sh.IT.wrap ((X.length:Int)+1))=restY x (nets ++ (idxs (x.1,x.2.1) Y ((X.length:Int)+1)).map (fun j=>(rPt a j).1)) (taxes ++ (idxs (x.1,x.2.1) Y ((X.length:Int)+1)).map (fun j=>(rPt a j).2)) (Y12 invOf invSums F ko l a S n (Sh.IT.wrap (i+1))):=by
   have:=ih (X ++ [y]) nets taxes k (by rw [e];simp) (by omega) (by omega) (by omega)
   rw [e1] at this
   rw [wrS (by omega),show ((X.length+1:Nat):Int)=(X.length:Int)+1 by omega];exact this
  rw [Y16_eq,decide_eq_true (by omega),sel_true,idxG l _ (by omega) (by omega),er]
  by_cases hk1:keyI y=(x.1,x.2.1)
  · have k1:y.2.2.1=x.1:=congrArg Prod.fst hk1
    have k2:y.2.2.2=x.2.1:=congrArg Prod.snd hk1
    have b1:(y.2.2.1 == x.1)=true:=by rw [k1];simp
    have b2:(y.2.2.2 == x.2.1)=true:=by rw [k2];simp
    rw [b1,b2,sel_true,sel_true,idxG a _ (by omega) (by omega)]
    unfold moreP
    rw [Nat.ble_eq_true_of_le (by omega),sel_true,idxG a _ (by omega) (by omega),Nat.ble_eq_true_of_le (by omega),sel_true]
    have:=ih (X ++ [y]) (nets ++ [(rPt a (X.length:Int)).1]) (taxes ++ [(rPt a (X.length:Int)).2]) k (by rw [e];simp) (by rw [List.length_append,List.length_singleton];omega) (by rw [List.length_append,List.length_singleton];omega) (by omega)
    rw [e1] at this
    rw [wrS (by omega),show ((X.length+1:Nat):Int)=(X.length:Int)+1 by omega,this]
    have ei:idxs (x.1,x.2.1) (y :: Y) (X.length:Int)=(X.length:Int) :: idxs (x.1,x.2.1) Y ((X.length:Int)+1):=if_pos hk1
    rw [ei,List.map_cons,List.map_cons,List.append_assoc,List.append_assoc];rfl
  · have ei:idxs (x.1,x.2.1) (y :: Y) (X.length:Int)=idxs (x.1,x.2.1) Y ((X.length:Int)+1):=if_neg hk1
    rw [ei,no]
    cases b1:(y.2.2.1 == x.1) with
    | false=>rfl
    | true =>
     rw [sel_true]
     cases b2:(y.2.2.2 == x.2.1) with
     | false=>rfl
     | true =>
      have c1:y.2.2.1=x.1:=by simpa using b1
      have c2:y.2.2.2=x.2.1:=by simpa using b2
      exact absurd (show keyI y=(x.1,x.2.1) from Prod.ext c1 c2) hk1
theorem bne_ii (x:Int):(x != x)=false:=by simp
theorem rest_ok {l:List Item} {g:GV} {s:SumT} {out:List PartT} (G:GrpOk l g) (S:SumOk l g s) (ho:g.2.map (rPt out)=List.zipWith (pv g.1.1 l) g.2 (taxesF g.2 l s)) (K:OB) :
 restY s ((idxs (s.1,s.2.1) l 0).map (fun j=>(rPt out j).1)) ((idxs (s.1,s.2.1) l 0).map (fun j=>(rPt out j).2)) K=K:=by
 obtain ⟨t1,t2,t3⟩:=taxes_ok G S
 have hk:(s.1,s.2.1)=g.1:=Prod.ext S.g1 S.g2
 rw [hk,← G.at']
 have en:g.2.map (fun j=>(rPt out j).1)=(List.zipWith (pv g.1.1 l) g.2 (taxesF g.2 l s)).map (·.1):=by rw [← ho,List.map_map];rfl
 have et:g.2.map (fun j=>(rPt out j).2)=taxesF g.2 l s:=by
  rw [← zip_snd g.1.1 l g.2 (taxesF g.2 l s) t3.symm,← ho,List.map_map];rfl
 have hnn:=split_nn S.t0 t1
 rw [← t2] at hnn
 have hts:(taxesF g.2 l s).sum=s.2.2.2:=by rw [t2];exact (split_parts t1).2.1
 obtain ⟨z1,z2⟩:=zip_net g.1.1 l g.2 (taxesF g.2 l s) t3.symm (fun i hi=>⟨(mayI_d (G.may i hi)).1,(mayI_d (G.may i hi)).2.1⟩) hnn
 rw [hts,← S.net] at z2
 have hnet : -4611686018427387904≤s.2.2.1∧s.2.2.1≤4611686018427387904:=by
  have h1:=S.net
  have h2:=S.t0
  have h3:=S.t1
  have h4:=S.a0
  have h5:=S.a1
  split at h1<;>omega
 have hs1:Ax.smV ((List.zipWith (pv g.1.1 l) g.2 (taxesF g.2 l s)).map (·.1))=(s.2.2.1,0):=by
  rw [smV_of z1 (by rw [z2];exact hnet),z2]
 have hs2:Ax.smV (taxesF g.2 l s)=(s.2.2.2,0):=by
  rw [smV_of (fun x hx=>by have:=hnn x hx;omega) (by rw [hts];have:=S.t0;have:=S.t1;omega),hts]
 have hl1:((List.zipWith (pv g.1.1 l) g.2 (taxesF g.2 l s)).map (·.1)).length=g.2.length:=by rw [List.length_map,List.length_zipWith,t3,Nat.min_self]
 have h0:(((List.zipWith (pv g.1.1 l) g.2 (taxesF g.2 l s)).map (·.1)).length:Int)≠0:=by rw [hl1];have:=G.ne;omega
 rw [en,et]
 unfold restY
 rw [hs1,hs2,Nat.ble_eq_true_of_le (by rw [hl1];have:=G.len;omega),Nat.ble_eq_true_of_le (by rw [t3];have:=G.len;omega),sel_true,sel_true]
 dsimp only
 rw [show ((0:Int) != 0)=false from rfl,sel_false,sel_false,bne_ii,bne_ii,sel_false,sel_false]
 have hb:((((List.zipWith (pv g.1.1 l) g.2 (taxesF g.2 l s)).map (·.1)).length:Int) == 0)=false:=by simpa using h0
 rw [hb,sel_false]
theorem Y12_run (F:Nat) (hF:1100≤F) (l:List Item) (out:List PartT) (S:List SumT) (gs:List GV) (hl:l.length≤1000) (ho:out.length=l.length) (hgl:gs.length=S.length) (hgl2:S.length≤1000) (hok:∀ p∈gs.zip S,GrpOk l p.1∧SumOk l p.1 p.2) (hout:∀ p∈gs.zip S,p.1.2.map (rPt out)=List.zipWith (pv p.1.1.1 l) p.1.2 (taxesF p.1.2 l p.2)) :
 ∀ (GY GX:List GV) (SY SX:List SumT) (kk:Nat),gs=GX ++ GY→S=SX ++ SY→GX.length=SX.length→GY.length=SY.length→SY.length<kk→Y12 invOf invSums F kk l out S (S.length:Int) (SX.length:Int)=oT:=by
 intro GY
 induction GY with
 | nil =>
  intro GX SY SX kk e1 e2 h1 h2 hk
  obtain ⟨k,rfl⟩:∃ k,kk=k+1:=⟨kk - 1,by omega⟩
  have hz:SY=[]:=List.eq_nil_of_length_eq_zero h2.symm
  have hln:S.length=SX.length:=by rw [e2,hz];simp
  rw [Y12_eq,decide_eq_false (by omega),sel_false]
 | cons g GY ih =>
  intro GX SY SX kk e1 e2 h1 h2 hk
  obtain ⟨k,rfl⟩:∃ k,kk=k+1:=⟨kk - 1,by omega⟩
  obtain ⟨s,SY,rfl⟩:∃ s T,SY=s :: T:=by
   cases SY with
   | nil=>simp at h2
   | cons s T=>exact ⟨s,T,rfl⟩
  rw [List.length_cons] at h2 hk
  rw [List.length_cons] at h2
  have hln:S.length=SX.length+(SY.length+1):=by rw [e2];simp
  have er:rSm S (SX.length:Int)=s:=by rw [e2];exact rSm_mid SX SY s
  have hm:(g,s)∈gs.zip S:=by
   rw [e1,e2,List.zip_append h1,List.zip_cons_cons];simp
  rw [Y12_eq,decide_eq_true (by omega),sel_true,idxG S _ (by omega) (by omega),er]
  have h16:=Y16_run F k l out S (S.length:Int) (SX.length:Int) s hl ho l [] [] [] F rfl (Nat.le_refl _) (Nat.le_refl _) (by omega)
  refine h16.trans ?_
  rw [List.nil_append,List.nil_append]
  refine (rest_ok (hok _ hm).1 (hok _ hm).2 (hout _ hm) _).trans ?_
  have e3:Sh.IT.wrap ((SX.length:Int)+1)=((SX ++ [s]).length:Int):=by rw [wrS (by omega),List.length_append,List.length_singleton]
  rw [e3]
  exact ih (GX ++ [g]) SY (SX ++ [s]) k (by rw [e1];simp) (by rw [e2];simp) (by simp [h1]) (by omega) (by omega)
theorem whole_ev (F:Nat) (hF:1100≤F) (l:List Item):evX Try.prog (CWl invOf invSums) (cnRow 1 TWl) F fWl [qItems] [qBool] (l,())=oT:=by
 rw [whole_tree]
 by_cases h:100<(l.length:Int)
 · rw [decide_eq_true h];rfl
 · rw [decide_eq_false h,sel_false]
   rcases inv_cases l (by omega) with ⟨e,he,h1,h2⟩|⟨hr,fin,out,h1,h2,h3,h4,h5,h6⟩
   · rw [h1,h2,ob_some,ob_some]
     dsimp only
     have hb:(e != 0)=true:=by simp [he]
     rw [bne_ii,sel_false,hb,sel_true];rfl
   · rw [h1,h2,ob_some,ob_some]
     dsimp only
     rw [bne_ii,sel_false,sel_false,h5,bne_ii,sel_false]
     have hgl:=grpsV_len l 0 []
     simp only [List.length_nil] at hgl
     exact Y12_run F hF l out fin (grpsV l 0 []) (by omega) h5 h3.symm (by omega) h4 h6 (grpsV l 0 []) [] fin [] F rfl rfl rfl h3.symm (by omega)
end Go.Proofs.Ytlfkfajodnkkhaa.Iv
namespace Go.Proofs.Ytlfkfajodnkkhaa.Print
open Go Go.RowKit Go.Proofs.YtlfkfajodnkkhaaW.PrintWords Go.Proofs.Ytlfkfajodnkkhaa.Ax Go.Proofs.Ytlfkfajodnkkhaa.Iv
set_option linter.unusedVariables false
def trIt (x:S29):Iv.Item:=(x.f0,x.f1,x.f2,x.f3)
theorem it_enc:∀ (w:World) (x:S29) (c:List Value),k29.K w x c→c=enc sIt (trIt x):=by
 intro w x c h
 rw [k29_open h];rfl
def octroilaw22_InvoiceWhole.f (l0:List S29):Option Bool:=some true
theorem octroilaw22_InvoiceWhole.calls (A0:Option Addr) (c0:Nat) (l0:List S29) (r:Bool) (w:World) (hr0:Kd.C k29 w A0 l0.length l0) (hc0:l0.length≤c0) (h:octroilaw22_InvoiceWhole.f l0=some r) :
 Calls Try.prog 5 #[.slice A0 l0.length c0] w fun e w'=>e = .returned (.bool r)∧Below w.heap.size w w':=by
 obtain rfl:true=r:=Option.some.inj h
 obtain ⟨L,h1,h2⟩:=row_of_C it_enc rfl (by decide) hr0 hc0
 have:=calls_of_X Sh.mixed Try.func5 CWl_ok (fun B' w=>cnRow_ok) (whole_ev 1100 (Nat.le_refl _) (l0.map trIt)) (fun _=>L) w (fun j o hj=>by
  obtain ⟨rfl,rfl⟩:=look_one hj
  exact ⟨Nat.le_refl _,by decide,rfl,rfl,h2 _⟩)
 have hargs:(denL (fun _=>L) (encA [qItems] (l0.map trIt,()) 0)).toArray = #[.slice A0 l0.length c0]:=by
  have h3:=h1 (fun _=>L) 0 rfl
  show (#[den (fun _=>L) (.all 0)]:Array Value)=_
  rw [h3]
 exact cast (congrArg (fun z=>Calls Try.prog 5 z w fun e w'=>e = .returned (.bool true)∧Below w.heap.size w w') hargs) this
end Go.Proofs.Ytlfkfajodnkkhaa.Print
namespace Go.Proofs.Ytlfkfajodnkkhaa.Print
open Go.RowKit Go.Proofs.YtlfkfajodnkkhaaW.PrintWords Go.Proofs.YtlfkfajodnkkhaaW.PrintLast
def octroilaw22_InvoiceWhole.Pure:Prop:=∀ (l0:List (S29)),l0.length≤maxLen→l0.length * 32≤140737488351232→(∀ x∈l0,((Lit.int .i64 x.f0).wf=true∧((Lit.int .i64 x.f1).wf=true∧(True∧(Lit.int .i64 x.f3).wf=true))))→octroilaw22_InvoiceWhole.f l0=some true
end Go.Proofs.Ytlfkfajodnkkhaa.Print
namespace Go.Proofs.Ytlfkfajodnkkhaa.Pure
open Go.RowKit Go.Proofs.Ytlfkfajodnkkhaa.Print
theorem InvoiceWhole:octroilaw22_InvoiceWhole.Pure:=by
 unfold octroilaw22_InvoiceWhole.Pure
 intros;rfl
end Go.Proofs.Ytlfkfajodnkkhaa.Pure
