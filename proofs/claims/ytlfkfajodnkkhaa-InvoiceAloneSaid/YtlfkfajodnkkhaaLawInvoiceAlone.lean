/- The row of the law InvoiceAlone,by a program of this session's (wip/lawrow.py),over its pure statement and its walk. -/
import Derived.Test.YtlfkfajodnkkhaaRows
import Derived.Test.YtlfkfajodnkkhaaPureInvoiceAlone
import Derived.Test.YtlfkfajodnkkhaaOpen
import Derived.SizedLaws
import Derived.ChangeSlices
import Derived.WalkKit
import Derived.ProofKit
import Derived.OpenShut
import Derived.ShutString
import Derived.ChangeOld
import Derived.Below
namespace Go.Proofs.Ytlfkfajodnkkhaa.invoiceAlone
open Go.ChangeShapes Go.WideShapes Go.ChangeAt Go.RowKit Go.Proofs.Ytlfkfajodnkkhaa.Print Go.Proofs.YtlfkfajodnkkhaaW.PrintWords Go.Proofs.YtlfkfajodnkkhaaW.PrintLast
open Go.ChangeMaps (open_string shut_string)
set_option linter.unusedVariables false
set_option linter.unusedSimpArgs false
theorem own:ownKnob Try.prog.godebug=none:=by kernel_rfl
theorem laidOut:laidOutB Try.prog=true:=by kernel_rfl
set_option maxRecDepth 100000 in
theorem opn0:Opens Try.prog 29 k29 (fun x=>((Lit.int .i64 x.f0).wf=true∧((Lit.int .i64 x.f1).wf=true∧(True∧(Lit.int .i64 x.f3).wf=true)))):=opens_iso (β:=S29) (f:=fun x:S29=>(x.f0,x.f1,x.f2,x.f3)) (fun a=>⟨a.1,a.2.1,a.2.2.1,a.2.2.2⟩) (fun a=>rfl) (opens_struct (d:=(Kd.pair (Kd.int .i64) (Kd.pair (Kd.int .i64) (Kd.pair Kd.bool (Kd.int .i64))))) Try.underlying29 (by kernel_rfl) (opF_cons rfl (opens_int (k:=.i64) Try.underlying3 (by kernel_rfl)) rfl (opF_cons rfl (opens_int (k:=.i64) Try.underlying3 (by kernel_rfl)) rfl (opF_cons rfl (opens_bool Try.underlying4 (by kernel_rfl)) rfl (opF_one rfl (opens_int (k:=.i64) Try.underlying3 (by kernel_rfl)))))))
set_option maxRecDepth 100000 in
theorem lifted (os:Os) (started:os.Started) (H:Type) (enc:TypeId × Value→H) :
 ReturnsInHanded {} Try.checked os 3 .any (Rows.invoiceAloneSpec.pre6 enc Try.prog Try.f3 Rows.invoiceAloneRow.domain false) (Rows.invoiceAloneSpec.post enc Try.prog Try.f3 false true false false):=by
 refine returnsInHanded_of_change_sized (C:=Try.checked) own started (by kernel_rfl) Try.func3
  (ChangeSpec.witness6 (enc:=enc) (C:=Try.checked) false ⟨#[],#[.slice none 0 0],[]⟩ 8 (by kernel_rfl) (by kernel_rfl) (by kernel_rfl) (by kernel_rfl)) ?_
 intro W base args ds gs before hval0 hW hcnd hsz0 _
 have hsz:(DataW.weightsEach Try.prog (Try.f3.params.toList ++ Rows.invoiceAloneSpec.plain.varTypes Try.prog) (ds ++ gs)).all (·≤reachBytes)=true:=hsz0
 have hval:∀ (j:Nat) t v,Try.f3.params[j]? = some t→args[j]? = some v→Value.okWide Try.prog W .any base t v:=hval0
 have hW':=hW
 obtain ⟨p,q,hA0,hV,rfl,hfz,hnd⟩:=hW
 have hA:DataW.TrodAll enc Try.prog W 0 (fun _=>true) true Try.f3.params.toList args.toList ds p:=hA0
 rw [Try.params3] at hA hval hsz
 obtain ⟨v0,vs0,d0,ds0,p0,q0,hargs,rfl,rfl,h0,r0⟩:=trodAll_cons hA
 obtain ⟨rfl,rfl,rfl⟩:=trodAll_nil r0
 obtain rfl:args = #[v0]:=by cases args;simp_all
 obtain ⟨rfl,rfl⟩:=trodVars_none hV
 obtain ⟨a0,len0,cap0,rfl⟩:=okWide_slice Try.underlying22 (hval 0 22 v0 rfl rfl)
 have k0:=h0
 have lt0:∀ x∈p0,x.block<W.heap.size:=by obtain ⟨m,hm⟩:=k0;exact DataW.trod_lt m _ _ _ hm
 have y0:len0 * 32≤140737488351232:=sized_row hsz (j:=0) (t:=22) rfl rfl Try.underlying22 (by kernel_rfl) h0
 obtain ⟨l0,rfl,hr0,hc0,hm0,hg0⟩:=opens_row Try.underlying22 opn0 h0
 clear hA0 hval0 hsz0 hsz
 have h:=Pure.InvoiceAlone l0 hm0 y0 hg0
 refine (octroilaw22_InvoiceAlone.calls _ _ l0 true W hr0 hc0 h).mono fun e W' he=>?_
 obtain ⟨rfl,bel0⟩:=he
 have bel:Below W.heap.size W W':=bel0
 exact ⟨_,rfl,_,_,_,[],_,[],hW',trodAll_mk1 (shut_bool Try.underlying4 _),trodAll_cons_mk (Below.trod laidOut (by kernel_rfl) (of_decide_eq_true (by kernel_rfl)) k0 bel lt0) (trodAll_mk0),rfl,bel.frame _,fun h=>by cases h⟩
theorem over:Rows.invoiceAloneRow.holds Try.pinned (OpenSpec.ofChange Rows.invoiceAloneSpec) :=
 OpenClaim.holds_of_wide 3 Try.f3 rfl rfl rfl rfl rfl rfl rfl ⟨rfl,rfl,rfl,rfl,rfl⟩ rfl rfl rfl rfl rfl (by kernel_rfl) Try.func3 (by kernel_rfl)
  (of_decide_eq_true (by kernel_rfl)) (by unfold Func.isWrapper;first|(rw [if_pos (by decide +kernel)];kernel_rfl)|(rw [if_neg (by decide +kernel)];exact ⟨rfl,rfl⟩))
  (fun os started H enc _=>lifted os started H enc)
theorem proved:Rows.InvoiceAloneSaid:=over
#print axioms proved
end Go.Proofs.Ytlfkfajodnkkhaa.invoiceAlone
namespace Go.Proofs.Ytlfkfajodnkkhaa
theorem invoiceAlone_holds:Rows.InvoiceAloneSaid:=invoiceAlone.proved
end Go.Proofs.Ytlfkfajodnkkhaa
