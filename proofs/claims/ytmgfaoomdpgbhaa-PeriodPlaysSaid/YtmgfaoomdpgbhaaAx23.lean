/- AX 23: callees that write to what they are handed, as plain functions of what stands there (conV); rows that are laid under names of their own at a callee's end. -/
import Derived.Test.YtmgfaoomdpgbhaaOwn1
import Derived.Test.YtmgfaoomdpgbhaaAx22
import Derived.Test.YtmgfaoomdpgbhaaAx21
import Derived.Test.YtmgfaoomdpgbhaaX0
import Derived.Test.YtmgfaoomdpgbhaaAx14
import Derived.Test.YtmgfaoomdpgbhaaAx4
import Derived.Test.YtmgfaoomdpgbhaaX6
import Derived.Test.YtmgfaoomdpgbhaaX8
namespace Go.Proofs.Ytmgfaoomdpgbhaa.Ax
open Go Go.RowKit Go.Proofs.YtmgfaoomdpgbhaaW.PrintWords
set_option linter.unusedVariables false
set_option linter.unusedSimpArgs false
theorem row_of_C {α : Type} {d : Kd α} {s : List Sc} {f : α → TT s} (hd : ∀ w x c, d.K w x c → c = enc s (f x)) (hsz : d.sz = s.length) (hs0 : 0 < s.length) {w : World} {A : Option Addr} {c : Nat} {l : List α} (h : Kd.C d w A l.length l) (hc : l.length ≤ c) :
    ∃ L : Loc, (∀ (ρ : Rho) id, ρ id = L → den ρ (.all id) = .slice A l.length c) ∧ (∀ ρ, OK ρ w L (.arg s (l.map f))) := by
  by_cases hl : l = []
  · subst hl
    exact ⟨⟨0, 0, 0, c, true, A⟩, fun ρ id hid => by simp only [den, hid, if_true]; rfl, fun ρ => ⟨rfl, .inl ⟨rfl, rfl⟩⟩⟩
  · obtain ⟨L, h1, h2, h3, rfl, h5⟩ := arg_of_C hd hsz hs0 h hc hl
    exact ⟨L, fun ρ id hid => by simp only [den, hid, h1, h2, h3, Bool.false_eq_true, if_false], h5⟩
section
variable {P : Program} {C : FuncId → Option Con} {cn : Nat → St → Option St} {F : Nat} {f : FuncId} {fn : Func}
theorem calls_of_X (hm : P.follows .mixedOrders = true) (hf : P.funcs[f]? = some fn) (hC : ∀ B' g φ, C g = some φ → ConOk P B' g φ) (hcn : ∀ B' (w : World), CnOk cn B' (Base.of w) fn.ntmps) {lin : List Pc} {x : PT lin} {b : Bool}
    (hev : evX P C cn F fn lin [.one .bool] x = some (b, ())) (ρ : Rho) (w : World) (hok : InOk w 0 (cntP lin 0) (hcA lin x 0) ρ) :
    Calls P f (denL ρ (encA lin x 0)).toArray w fun e w' => e = .returned (.bool b) ∧ Below w.heap.size w w' := by
  have hr : HR (fun b => w.heap.size ≤ b) ρ (hcA lin x 0) w := by
    refine ⟨fun i oc hi => (hok i oc hi).2.2.2.2, fun i oc hi hw => ?_, fun i oc hi hs hn => ?_, fun i j oc oc' hi hj hw => ?_⟩
    · have := (hok i oc hi).2.2.1
      cases oc <;> first | (cases hw; done) | (cases this; done)
    · have := (hok i oc hi).2.2.2.2.lt (fun e => by subst e; cases hs) hn
      show ¬ w.heap.size ≤ _
      omega
    · have := (hok i oc hi).2.2.1
      cases oc <;> first | (cases hw; done) | (cases this; done)
  refine (evFn_sound hm hf (hC _) hev ρ w (Base.of w) rfl (fun i hi => absurd hi (Nat.not_lt_zero _)) (Nat.zero_le _) (hcn _ w) hr (fun i oc hi => ⟨(hok i oc hi).2.1, AObj.lt_mono (Nat.zero_le _) oc (hok i oc hi).2.2.2.1⟩) (encA_lt lin x 0 _ (Nat.le_refl _)) (fun b hb => hb)).mono ?_
  rintro e w' ⟨ρ', s', h', rfl, hk, _, hks, _⟩
  obtain ⟨vs, hvs, rfl⟩ := KX_res hk
  refine ⟨?_, hks.below (fun b hb => hb)⟩
  match vs, hvs with
  | [v], hvs =>
    simp only [decR] at hvs
    cases hd : decR1 (.one .bool) v h' with
    | none => rw [hd] at hvs; cases hvs
    | some z =>
      rw [hd] at hvs
      cases hvs
      rw [decS_den ρ' hd]; rfl
  | v :: v' :: vs, hvs =>
    simp only [decR] at hvs
    split at hvs <;> cases hvs
end
end Go.Proofs.Ytmgfaoomdpgbhaa.Ax
namespace Go.Proofs.Ytmgfaoomdpgbhaa.Ax
open Go Go.RowKit Go.Proofs.Ytmgfaoomdpgbhaa.Print
set_option linter.unusedVariables false
set_option linter.unusedSimpArgs false
abbrev C5 := Int × Int × Int × Int × Int
abbrev Q3 := Int × Int × Int
abbrev qInt : Pc := .one (.int .i64)
abbrev qBool : Pc := .one .bool
abbrev st3 : List Sc := [.int .i64, .int .i64, .int .i64]
abbrev st5 : List Sc := [.int .i64, .int .i64, .int .i64, .int .i64, .int .i64]
abbrev qPer : Pc := .agg st3
abbrev qClk : Pc := .agg st5
abbrev qPers : Pc := .row 24 st3
noncomputable abbrev autoP (own : Bool) (C : FuncId → Option Con) (fn : Func) : Con := conAuto Try.prog C cn0 40 own fn
theorem autoP_ok {f : FuncId} {fn : Func} (own : Bool) {C : FuncId → Option Con} (hC : ∀ B' g φ, C g = some φ → ConOk Try.prog B' g φ) (hf : Try.prog.funcs[f]? = some fn) (hname : (fn.name == "runtime.NumGoroutine") = false) (hbody : fn.body.isSome = true) (B : Nat → Prop) : ConOk Try.prog B f (autoP own C fn) :=
  conAuto_ok mixed hf hname hbody hC (fun B' w0 => cn0_ok B' w0 _) own B
theorem toldP {f : FuncId} {fn : Func} {C : FuncId → Option Con} (hC : ∀ B' g φ, C g = some φ → ConOk Try.prog B' g φ) (hf : Try.prog.funcs[f]? = some fn) (hname : (fn.name == "runtime.NumGoroutine") = false) (hbody : fn.body.isSome = true) {lin lout : List Pc} (V : PT lin → Option (PT lout))
    (hV : ∀ x y, V x = some y → evX Try.prog C cn0 40 fn lin lout x = some y) (h1 : rowsP lout ≤ 1) (B : Nat → Prop) : ConOk Try.prog B f (conX lin lout V) :=
  conX_ok mixed hf hname hbody hC (fun B' w => cn0_ok B' w _) lin lout h1 (fun _ => 40) V hV B
def cRMany : Con := fun args _ => match args with
  | [.v (.int .i64 k)] => .ret ⟨.v (.int .i64 (manyV k)), []⟩
  | _ => .fail
theorem cRMany_ok (B) : ConOk Try.prog B 36 cRMany := by
  intro args ρ h w lo out ids hr hrh hfr hfa up
  unfold cRMany at hr
  split at hr
  · rename_i k
    cases hr
    exact gives_same (s := .v (.int .i64 (manyV k))) (fn := Try.f36) Try.func36 (by kernel_rfl) (by kernel_rfl) hrh up ((octroiref04_Many.calls k _ w (ref_many k)).mono fun e w' he => ⟨he.1, he.2.below⟩)
  · cases hr
theorem cRGood_ok : ∀ B, ConOk Try.prog B 35 cGood := by
  intro B args ρ h w lo out ids hr hrh hfr hfa up
  unfold cGood at hr
  split at hr
  · rename_i k y i
    cases hr
    exact gives_same (s := .v (.bool (goodB k y i))) (fn := Try.f35) Try.func35 (by kernel_rfl) (by kernel_rfl) hrh up (octroiref04_Good.calls k y i _ w (ref_good k y i))
  · cases hr
theorem cROf_ok : ∀ B, ConOk Try.prog B 34 cOfC := by
  intro B args ρ h w lo out ids hr hrh hfr hfa up
  unfold cOfC at hr
  split at hr
  · rename_i n kd
    cases hr
    obtain ⟨K, hK⟩ := ref_of n kd
    exact gives_same (s := .tup [.agg [.v (.int .i64 (ofV n kd).1), .v (.int .i64 (ofV n kd).2.1), .v (.int .i64 (ofV n kd).2.2.1)], .v (.int .i64 (ofV n kd).2.2.2)]) (fn := Try.f34) Try.func34 (by kernel_rfl) (by kernel_rfl) hrh up (octroiref04_Of.calls K n kd _ _ _ _ w (hK K (Nat.le_refl _)))
  · cases hr
theorem cRNext_ok : ∀ B, ConOk Try.prog B 18 cNext := by
  intro B args ρ h w lo out ids hr hrh hfr hfa up
  unfold cNext at hr
  split at hr
  · rename_i k y i b
    obtain ⟨hb, hr⟩ := br_run (h := h) hr
    cases hr
    exact gives_same (s := .tup [.agg [.v (.int .i64 (nextV k y i b).1), .v (.int .i64 (nextV k y i b).2.1), .v (.int .i64 (nextV k y i b).2.2.1)], .v (.int .i64 (nextV k y i b).2.2.2)]) (fn := Try.f18) Try.func18 (by kernel_rfl) (by kernel_rfl) hrh up (octroiref04_Next.calls k y i b _ _ _ _ w (ref_next k y i b ((rngB_iff b).1 hb)))
  · cases hr
def CR0 : FuncId → Option Con
  | 36 => some cRMany
  | 35 => some cGood
  | 34 => some cOfC
  | 18 => some cNext
  | g => CLaw g
theorem CR0_ok : ∀ B' g φ, CR0 g = some φ → ConOk Try.prog B' g φ := by
  intro B' g φ h
  unfold CR0 at h
  split at h
  · cases h; exact cRMany_ok B'
  · cases h; exact cRGood_ok B'
  · cases h; exact cROf_ok B'
  · cases h; exact cRNext_ok B'
  · exact CLaw_ok B' _ φ h
abbrev IP := IntKind.i64
def rnumV (p : Q3) : Int := IP.wrap (IP.wrap (IP.wrap (IP.wrap (p.2.1 - 1970) * manyV p.1) + p.2.2) - 1)
theorem num_tree (p : Q3) : evX Try.prog CR0 cn0 40 Try.f37 [qPer] [qInt] (p, ()) = some (rnumV p, ()) := by kernel_rfl
noncomputable def CR1 : FuncId → Option Con
  | 37 => some (conX [qPer] [qInt] fun x => some (rnumV x.1, ()))
  | g => CR0 g
theorem CR1_ok : ∀ B' g φ, CR1 g = some φ → ConOk Try.prog B' g φ := by
  intro B' g φ h
  unfold CR1 at h
  split at h
  · cases h; exact toldP CR0_ok Try.func37 (by kernel_rfl) (by kernel_rfl) _ (fun x y h => by cases h; exact num_tree x.1) (by decide) B'
  · exact CR0_ok B' _ φ h
def gB (p : Q3) : Bool := goodB p.1 p.2.1 p.2.2
def oP (c : C5) : Q3 := (c.1, c.2.1, c.2.2.1)
def rplV (c : C5) (p : Q3) : Int := bif !gB p then -1 else bif p.1 != c.1 then -1 else IP.wrap (rnumV p - rnumV (oP c))
def rplT (c : C5) (p : Q3) : Option (Int × Unit) := sel (!gB p) (some (-1, ())) (sel (p.1 != c.1) (some (-1, ())) (some (IP.wrap (rnumV p - rnumV (oP c)), ())))
theorem rplT_eq (c : C5) (p : Q3) : rplT c p = some (rplV c p, ()) := by
  unfold rplT rplV
  cases gB p <;> cases (p.1 != c.1) <;> rfl
theorem rpl_tree (c : C5) (p : Q3) : evX Try.prog CR1 cn0 40 Try.f38 [qClk, qPer] [qInt] (c, p, ()) = rplT c p := by kernel_rfl
noncomputable def CR2 : FuncId → Option Con
  | 38 => some (conX [qClk, qPer] [qInt] fun x => some (rplV x.1 x.2.1, ()))
  | g => CR1 g
theorem CR2_ok : ∀ B' g φ, CR2 g = some φ → ConOk Try.prog B' g φ := by
  intro B' g φ h
  unfold CR2 at h
  split at h
  · cases h; exact toldP CR1_ok Try.func38 (by kernel_rfl) (by kernel_rfl) _ (fun x y h => by cases h; exact (rpl_tree x.1 x.2.1).trans (rplT_eq _ _)) (by decide) B'
  · exact CR1_ok B' _ φ h
def cA (c : C5) : Int := c.2.2.2.1
def cB (c : C5) : Int := c.2.2.2.2
def rstV (c : C5) (p : Q3) : Int := bif decide (rplV c p < 0) then 0 else bif decide (rplV c p < cB c) then 3 else bif decide (rplV c p < cA c) then 2 else 1
def rstT (c : C5) (p : Q3) : Option (Int × Unit) := sel (decide (rplV c p < 0)) (some (0, ())) (sel (decide (rplV c p < cB c)) (some (3, ())) (sel (decide (rplV c p < cA c)) (some (2, ())) (some (1, ()))))
theorem rstT_eq (c : C5) (p : Q3) : rstT c p = some (rstV c p, ()) := by
  unfold rstT rstV
  cases decide (rplV c p < 0) <;> cases decide (rplV c p < cB c) <;> cases decide (rplV c p < cA c) <;> rfl
theorem rst_tree (c : C5) (p : Q3) : evX Try.prog CR2 cn0 40 Try.f23 [qClk, qPer] [qInt] (c, p, ()) = rstT c p := by kernel_rfl
def rngO {β : Type} (a : Int) (x : Option β) : Option β := cond (rngB a) x none
theorem rngO_some {β : Type} {a : Int} {x : Option β} {y : β} (h : rngO a x = some y) : rngB a = true ∧ x = some y := by
  unfold rngO at h
  cases hb : rngB a with
  | false => rw [hb] at h; cases h
  | true => rw [hb] at h; exact ⟨rfl, h⟩
theorem rngO_yes {β : Type} {a : Int} (h : rngB a = true) (x : Option β) : rngO a x = x := by unfold rngO; rw [h]; rfl
def nx (c : C5) (d : Int) : Q3 := ((nextV c.1 c.2.1 c.2.2.1 d).1, (nextV c.1 c.2.1 c.2.2.1 d).2.1, (nextV c.1 c.2.1 c.2.2.1 d).2.2.1)
theorem rfr_tree (c : C5) : evX Try.prog CR2 cn0 40 Try.f17 [qClk] [qPer] (c, ()) = sel (rngB (cA c)) (some (nx c (cA c), ())) none := by kernel_rfl
noncomputable def CR3 : FuncId → Option Con
  | 23 => some (conX [qClk, qPer] [qInt] fun x => some (rstV x.1 x.2.1, ()))
  | 17 => some (conX [qClk] [qPer] fun x => rngO (cA x.1) (some (nx x.1 (cA x.1), ())))
  | g => CR2 g
theorem CR3_ok : ∀ B' g φ, CR3 g = some φ → ConOk Try.prog B' g φ := by
  intro B' g φ h
  unfold CR3 at h
  split at h
  · cases h; exact toldP CR2_ok Try.func23 (by kernel_rfl) (by kernel_rfl) _ (fun x y h => by cases h; exact (rst_tree x.1 x.2.1).trans (rstT_eq _ _)) (by decide) B'
  · cases h; exact toldP CR2_ok Try.func17 (by kernel_rfl) (by kernel_rfl) _ (fun x y h => by obtain ⟨h1, h2⟩ := rngO_some h; cases h2; exact (rfr_tree x.1).trans (by rw [h1]; rfl)) (by decide) B'
  · exact CR2_ok B' _ φ h
abbrev CE := C5 × Int × Unit
def upA (c : C5) : C5 := (c.1, c.2.1, c.2.2.1, IP.wrap (cA c + 1), cB c)
def upB (c : C5) : C5 := (c.1, c.2.1, c.2.2.1, cA c, IP.wrap (cB c + 1))
def rclV (c : C5) (p : Q3) : CE := bif rstV c p == 0 then (c, 2, ()) else bif rstV c p == 2 then (c, 70, ()) else bif rstV c p == 3 then (c, 70, ()) else bif decide (cA c < rplV c p) then (c, 71, ()) else (upA c, 0, ())
def rclT (c : C5) (p : Q3) : Option CE := sel (rstV c p == 0) (some (c, 2, ())) (sel (rstV c p == 2) (some (c, 70, ())) (sel (rstV c p == 3) (some (c, 70, ())) (sel (decide (cA c < rplV c p)) (some (c, 71, ())) (some (upA c, 0, ())))))
theorem rclT_eq (c : C5) (p : Q3) : rclT c p = some (rclV c p) := by
  unfold rclT rclV
  cases (rstV c p == 0) <;> cases (rstV c p == 2) <;> cases (rstV c p == 3) <;> cases decide (cA c < rplV c p) <;> rfl
theorem rcl_tree (c : C5) (p : Q3) : evX Try.prog CR3 cn0 40 Try.f19 [qClk, qPer] [qClk, qInt] (c, p, ()) = rclT c p := by kernel_rfl
def rfiV (c : C5) (p : Q3) : CE := bif rstV c p == 0 then (c, 2, ()) else bif rstV c p != 2 then (c, 71, ()) else bif rplV c p != cB c then (c, 71, ()) else (upB c, 0, ())
def rfiT (c : C5) (p : Q3) : Option CE := sel (rstV c p == 0) (some (c, 2, ())) (sel (rstV c p != 2) (some (c, 71, ())) (sel (rplV c p != cB c) (some (c, 71, ())) (some (upB c, 0, ()))))
theorem rfiT_eq (c : C5) (p : Q3) : rfiT c p = some (rfiV c p) := by
  unfold rfiT rfiV
  cases (rstV c p == 0) <;> cases (rstV c p != 2) <;> cases (rplV c p != cB c) <;> rfl
theorem rfi_tree (c : C5) (p : Q3) : evX Try.prog CR3 cn0 40 Try.f20 [qClk, qPer] [qClk, qInt] (c, p, ()) = rfiT c p := by kernel_rfl
abbrev RT := Q3 × Q3 × Int × Unit
def oO (d k : Int) : Q3 := ((ofV d k).1, (ofV d k).2.1, (ofV d k).2.2.1)
def rrtT (c : C5) (d : Int) : Option RT := sel ((ofV d c.1).2.2.2 != 0) (some ((0, 0, 0), (0, 0, 0), 30, ())) (sel (rstV c (oO d c.1) == 0) (some ((0, 0, 0), (0, 0, 0), 30, ())) (obnd (rngO (cA c) (some (nx c (cA c), ()))) fun f =>
  sel (f.1.1 == 0) (some ((0, 0, 0), (0, 0, 0), 70, ())) (sel (rstV c (oO d c.1) == 1) (some (oO d c.1, oO d c.1, 0, ())) (some (f.1, oO d c.1, 0, ())))))
theorem rrt_tree (c : C5) (d : Int) : evX Try.prog CR3 cn0 40 Try.f22 [qClk, qInt] [qPer, qPer, qInt] (c, d, ()) = rrtT c d := by kernel_rfl
abbrev NE := C5 × Bool × Unit
def rnewV (k d : Int) : NE := bif (ofV d k).2.2.2 != 0 || k == 3 then ((0, 0, 0, 0, 0), false, ()) else (((ofV d k).1, (ofV d k).2.1, (ofV d k).2.2.1, 0, 0), true, ())
def rnewT (k d : Int) : Option NE := sel ((ofV d k).2.2.2 != 0) (some ((0, 0, 0, 0, 0), false, ())) (sel (k == 3) (some ((0, 0, 0, 0, 0), false, ())) (some (((ofV d k).1, (ofV d k).2.1, (ofV d k).2.2.1, 0, 0), true, ())))
theorem rnewT_eq (k d : Int) : rnewT k d = some (rnewV k d) := by
  unfold rnewT rnewV
  cases ((ofV d k).2.2.2 != 0) <;> cases (k == 3) <;> rfl
theorem rnew_tree (k d : Int) : evX Try.prog CR3 cn0 40 Try.f16 [qInt, qInt] [qClk, qBool] (k, d, ()) = rnewT k d := by kernel_rfl
end Go.Proofs.Ytmgfaoomdpgbhaa.Ax
namespace Go.Proofs.Ytmgfaoomdpgbhaa.Ax
open Go Go.RowKit Go.Proofs.Ytmgfaoomdpgbhaa.Print
set_option linter.unusedVariables false
set_option linter.unusedSimpArgs false
noncomputable def CR4 : FuncId → Option Con
  | 19 => some (conX [qClk, qPer] [qClk, qInt] fun x => some (rclV x.1 x.2.1))
  | 20 => some (conX [qClk, qPer] [qClk, qInt] fun x => some (rfiV x.1 x.2.1))
  | 22 => some (conX [qClk, qInt] [qPer, qPer, qInt] fun x => rrtT x.1 x.2.1)
  | 16 => some (conX [qInt, qInt] [qClk, qBool] fun x => some (rnewV x.1 x.2.1))
  | 21 => some (autoP true CR3 Try.f21)
  | 31 => some cAt
  | g => CR3 g
theorem CR4_ok : ∀ B' g φ, CR4 g = some φ → ConOk Try.prog B' g φ := by
  intro B' g φ h
  unfold CR4 at h
  split at h
  · cases h; exact toldP CR3_ok Try.func19 (by kernel_rfl) (by kernel_rfl) _ (fun x y h => by cases h; exact (rcl_tree x.1 x.2.1).trans (rclT_eq _ _)) (by decide) B'
  · cases h; exact toldP CR3_ok Try.func20 (by kernel_rfl) (by kernel_rfl) _ (fun x y h => by cases h; exact (rfi_tree x.1 x.2.1).trans (rfiT_eq _ _)) (by decide) B'
  · cases h; exact toldP CR3_ok Try.func22 (by kernel_rfl) (by kernel_rfl) _ (fun x y h => by exact (rrt_tree x.1 x.2.1).trans h) (by decide) B'
  · cases h; exact toldP CR3_ok Try.func16 (by kernel_rfl) (by kernel_rfl) _ (fun x y h => by cases h; exact (rnew_tree x.1 x.2.1).trans (rnewT_eq _ _)) (by decide) B'
  · cases h; exact autoP_ok true CR3_ok Try.func21 (by kernel_rfl) (by kernel_rfl) B'
  · cases h; exact cAt_ok B'
  · exact CR3_ok B' _ φ h
abbrev TbP := Nat → Option (List Nat × List (Nat × TypeId × List Sc))
abbrev vi (a : Int) : SV := .v (.int .i64 a)
def idxP {α β : Type} (l : List α) (i : Int) (x : Option β) : Option β := sel (decide (0 ≤ i)) (sel (decide (i < (l.length : Int))) (sel (decide (i.toNat < l.length)) x none) none) none
def moreP {α β : Type} (acc : List α) (x : Option β) : Option β := sel (Nat.ble (acc.length + 1) 1000000000) x none
abbrev FO := Option (List Q3 × Unit)
def TFl : TbP
  | 4 => some ([0, 2, 10, 11], [(2, 24, st3)])
  | _ => none
noncomputable def LFl (F kk : Nat) (c : C5) (n i : Int) (out : List Q3) : FO := loopAt (eff Try.prog CR4) Try.f26.ntmps (cnRow 1 TFl) F Try.prog Try.f26 (KX [qPers]) [.R, .R, .L, .R, .D] kk
  ⟨[(0, .ptr 0 0), (2, .all 1), (10, vi n), (11, vi i)], [(0, .ro 58 (clkC c.1 c.2.1 c.2.2.1 (cA c) (cB c))), (1, .row 24 st3 out)], 3⟩
theorem LFl_eq (F kk : Nat) (c : C5) (n i : Int) (out : List Q3) : LFl F (kk + 1) c n i out = sel (decide (i < n)) (sel (rngB i) (moreP out (LFl F kk c n (IP.wrap (i + 1)) (out ++ [nx c i]))) none) (some (out, ())) := by kernel_rfl
abbrev qPtr : Pc := .ptr 58 st5
theorem fl_tree (F : Nat) (c : C5) : evX Try.prog CR4 (cnRow 1 TFl) F Try.f26 [qPtr] [qPers] (c, ()) = sel (noneB c.1 c.2.1 c.2.2.1) (some ([], ())) (LFl F F c (cB c) 0 []) := by kernel_rfl
def TAl : TbP
  | 3 => some ([1, 3, 4], [(3, 24, st3)])
  | _ => none
noncomputable def LAl (F kk : Nat) (c : C5) (i : Int) (out : List Q3) : FO := loopAt (eff Try.prog CR4) Try.f27.ntmps (cnRow 0 TAl) F Try.prog Try.f27 (KX [qPers]) [.R, .R, .L, .R, .D] kk
  ⟨[(1, .ptr 0 0), (3, .all 1), (4, vi i)], [(0, .cells 41 (clkC c.1 c.2.1 c.2.2.1 (cA c) (cB c))), (1, .row 24 st3 out)], 2⟩
theorem LAl_eq (F kk : Nat) (c : C5) (i : Int) (out : List Q3) : LAl F (kk + 1) c i out = sel (decide (i < cB c)) (sel (rngB i) (moreP out (LAl F kk c (IP.wrap (i + 1)) (out ++ [nx c i]))) none) (some (out, ())) := by kernel_rfl
theorem al_tree (F : Nat) (c : C5) : evX Try.prog CR4 (cnRow 0 TAl) F Try.f27 [qClk] [qPers] (c, ()) = LAl F F c 0 [] := by kernel_rfl
def perEq (p q : Q3) : Bool := p.1 == q.1 && (p.2.1 == q.2.1 && (p.2.2 == q.2.2 && true))
def pAt (l : List Q3) (i : Int) : Q3 := List.getD l i.toNat (dfl st3)
def TSa : TbP
  | 4 => some ([0, 1, 12, 13], [])
  | _ => none
noncomputable def LSa (F kk : Nat) (a b : List Q3) (i : Int) : Option (Bool × Unit) := loopAt (eff Try.prog CR4) Try.f25.ntmps (cnRow 2 TSa) F Try.prog Try.f25 (KX [qBool]) [.R, .R, .L, .R, .D] kk
  ⟨[(0, .all 0), (1, .all 1), (12, vi a.length), (13, vi i)], [(0, .arg st3 a), (1, .arg st3 b)], 4⟩
theorem LSa_eq (F kk : Nat) (a b : List Q3) (i : Int) : LSa F (kk + 1) a b i =
    sel (decide (i < (a.length : Int))) (idxP a i (idxP b i (sel (!perEq (pAt a i) (pAt b i)) (some (false, ())) (LSa F kk a b (IP.wrap (i + 1)))))) (some (true, ())) := by kernel_rfl
theorem sa_tree (F : Nat) (a b : List Q3) : evX Try.prog CR4 (cnRow 2 TSa) F Try.f25 [qPers, qPers] [qBool] (a, b, ()) =
    sel ((a.length : Int) != (b.length : Int)) (some (false, ())) (LSa F F a b 0) := by kernel_rfl
noncomputable def vFl (c : C5) : FO := evX Try.prog CR4 (cnRow 1 TFl) 200 Try.f26 [qPtr] [qPers] (c, ())
noncomputable def vAl (c : C5) : FO := evX Try.prog CR4 (cnRow 0 TAl) 200 Try.f27 [qClk] [qPers] (c, ())
noncomputable def vSa (a b : List Q3) : Option (Bool × Unit) := evX Try.prog CR4 (cnRow 2 TSa) 200 Try.f25 [qPers, qPers] [qBool] (a, b, ())
noncomputable def CR5 : FuncId → Option Con
  | 26 => some (conX [qPtr] [qPers] fun x => vFl x.1)
  | 27 => some (conX [qClk] [qPers] fun x => vAl x.1)
  | 25 => some (conX [qPers, qPers] [qBool] fun x => vSa x.1 x.2.1)
  | g => CR4 g
theorem CR5_ok : ∀ B' g φ, CR5 g = some φ → ConOk Try.prog B' g φ := by
  intro B' g φ h
  unfold CR5 at h
  split at h
  · cases h; exact conX_ok mixed Try.func26 (by kernel_rfl) (by kernel_rfl) CR4_ok (fun B' w => cnRow_ok (pin := 1) (T := TFl)) _ _ (by decide) (fun _ => 200) _ (fun x y h => by exact h) B'
  · cases h; exact conX_ok mixed Try.func27 (by kernel_rfl) (by kernel_rfl) CR4_ok (fun B' w => cnRow_ok (pin := 0) (T := TAl)) _ _ (by decide) (fun _ => 200) _ (fun x y h => by exact h) B'
  · cases h; exact conX_ok mixed Try.func25 (by kernel_rfl) (by kernel_rfl) CR4_ok (fun B' w => cnRow_ok (pin := 2) (T := TSa)) _ _ (by decide) (fun _ => 200) _ (fun x y h => by exact h) B'
  · exact CR4_ok B' _ φ h
end Go.Proofs.Ytmgfaoomdpgbhaa.Ax
namespace Go.Proofs.Ytmgfaoomdpgbhaa.Ax
open Go Go.RowKit Go.Proofs.Ytmgfaoomdpgbhaa.Print
set_option linter.unusedVariables false
set_option linter.unusedSimpArgs false
abbrev sS : List Sc := [.int .i64, .int .i64, .int .i64, .int .i64]
abbrev J4 := Int × Int × Int × Int
abbrev qSteps : Pc := .row 30 sS
abbrev qStep : Pc := .agg sS
abbrev OB := Option (Bool × Unit)
abbrev yesT : OB := some (true, ())
abbrev noT : OB := some (false, ())
def jAt (l : List J4) (i : Int) : J4 := List.getD l i.toNat (dfl sS)
def TPl : TbP
  | 8 => some ([0, 4, 8, 11, 12, 53, 54, 55], [])
  | _ => none
noncomputable def LPl (F kk : Nat) (l : List J4) (kd when_ : Int) (ask : J4) (c w : C5) (i : Int) : OB := loopAt (eff Try.prog CR5) Try.f5.ntmps (cnRow 1 TPl) F Try.prog Try.f5 (KX [qBool]) [.R, .R, .R, .R, .R, .L, .R, .D] kk
  ⟨[(0, vi kd), (4, vi when_), (8, .ptr 1 0), (11, .ptr 2 0), (12, .ptr 3 0), (53, .all 0), (54, vi l.length), (55, vi i)],
   [(0, .arg sS l), (1, .cells 30 [vi ask.1, vi ask.2.1, vi ask.2.2.1, vi ask.2.2.2]), (2, .cells 58 (clkC c.1 c.2.1 c.2.2.1 (cA c) (cB c))), (3, .cells 41 (clkC w.1 w.2.1 w.2.2.1 (cA w) (cB w)))], 5⟩
def stC (c : C5) (p : Q3) : Int := stateV c.1 c.2.1 c.2.2.1 (cA c) (cB c) p.1 p.2.1 p.2.2
def rtC (c : C5) (d : Int) : Q3 × Q3 × Int := routeV c.1 c.2.1 c.2.2.1 (cA c) (cB c) d
def frC (c : C5) : Q3 := frV c.1 c.2.1 c.2.2.1 (cA c)
def clC (c : C5) (p : Q3) : Int × Int := closeV c.1 c.2.1 c.2.2.1 (cA c) (cB c) p.1 p.2.1 p.2.2
def fiC (c : C5) (p : Q3) : Int × Int := fileV c.1 c.2.1 c.2.2.1 (cA c) (cB c) p.1 p.2.1 p.2.2
def setA (c : C5) (a : Int) : C5 := (c.1, c.2.1, c.2.2.1, a, cB c)
def setB (c : C5) (b : Int) : C5 := (c.1, c.2.1, c.2.2.1, cA c, b)
def frW {β : Type} (w : C5) (k : Q3 → Option β) : Option β := obnd (rngO (cA w) (some (nx w (cA w), ()))) fun z => k z.1
noncomputable def chk (kd when_ : Int) (ask : J4) (c w : C5) (P : Q3) (e f : Int) (R : OB) : OB :=
  sel (rngB (cA c)) (obnd (rrtT w when_) fun q => sel (e != f) noT (sel (stC c ask.2 != rstV w ask.2) noT (sel (stC c P != rstV w P) noT (sel (!perEq (rtC c when_).1 q.1) noT (sel (!perEq (rtC c when_).2.1 q.2.1) noT (sel ((rtC c when_).2.2 != q.2.2.1) noT
    (sel (rngB (cA c)) (frW w fun z => sel (!perEq (frC c) z) noT (sel (kindV c.1 c.2.1 c.2.2.1 != kd) noT (obnd (vFl c) fun x => obnd (vAl w) fun y => obnd (vSa x.1 y.1) fun s => sel (!s.1) noT R))) none))))))) none
noncomputable def rnd (kd when_ : Int) (ask : J4) (c w : C5) (s : Int) (P : Q3) (R : C5 → C5 → OB) : OB :=
  sel (s == 0) (chk kd when_ ask (setA c (clC c P).2) (rclV w P).1 P (clC c P).1 (rclV w P).2.1 (R (setA c (clC c P).2) (rclV w P).1))
  (sel (s == 2) (chk kd when_ ask (setA c (clC c P).2) (rclV w P).1 P (clC c P).1 (rclV w P).2.1 (R (setA c (clC c P).2) (rclV w P).1))
  (sel (s == 1) (chk kd when_ ask (setB c (fiC c P).2) (rfiV w P).1 P (fiC c P).1 (rfiV w P).2.1 (R (setB c (fiC c P).2) (rfiV w P).1))
  (sel (s == 3) (chk kd when_ ask (setB c (fiC c P).2) (rfiV w P).1 P (fiC c P).1 (rfiV w P).2.1 (R (setB c (fiC c P).2) (rfiV w P).1))
  (frW w fun _ => chk kd when_ ask c w P 0 0 (R c w)))))
noncomputable def stepT (kd when_ : Int) (ask : J4) (c w : C5) (s : J4) (R : C5 → C5 → OB) : OB :=
  sel (s.1 == 2) (frW w fun z => rnd kd when_ ask c w s.1 z R) (sel (s.1 == 3) (sel (rngB (cB w)) (rnd kd when_ ask c w s.1 (nx w (cB w)) R) none) (rnd kd when_ ask c w s.1 s.2 R))
end Go.Proofs.Ytmgfaoomdpgbhaa.Ax
namespace Go.Proofs.Ytmgfaoomdpgbhaa.Ax
open Go Go.RowKit Go.Proofs.Ytmgfaoomdpgbhaa.Print
set_option linter.unusedVariables false
set_option linter.unusedSimpArgs false
section
variable (E : Oper → (Operand → Option SV) → Nat → Rd Out) (n : Nat) (cn : Nat → St → Option St) (F : Nat)
def rndK {β : Type} (c : Code) (K : Ex → St → Option β) (rec : St → Option β) : Ex → St → Option β := fun e σ' => match e with
  | .normal => match cn (key c) σ' with
    | none => none
    | some σ2 => rec σ2
  | .exit id => K (.exit id) σ'
  | .ret => K .ret σ'
theorem iter_succ {β : Type} (c : Code) (K : Ex → St → Option β) (k : Nat) (σ : St) : iter (k + 1) (loopF E n cn F c K) σ = ev E n cn F c σ (rndK cn c K (iter k (loopF E n cn F c K))) := rfl
theorem loopAt_succ {β : Type} {P : Program} {fn : Func} {K : SV → Hp → Option β} {p : List Dir} {c : Code} (h : sub p (bodyOf fn) = .loop c) (k : Nat) (σ : St) :
    loopAt E n cn F P fn K p (k + 1) σ = ev E n cn F c σ (rndK cn c (kont E n cn F p (bodyOf fn) (finK P fn K)) (iter k (loopF E n cn F c (kont E n cn F p (bodyOf fn) (finK P fn K))))) := by
  unfold loopAt
  rw [h]
  exact iter_succ E n cn F c _ k σ
end
abbrev pPl : List Dir := [.R, .R, .R, .R, .R, .L, .R, .D]
noncomputable def cPl : Code := match sub pPl (bodyOf Try.f5) with
  | .loop c => c
  | _ => .skip
theorem cPl_eq : sub pPl (bodyOf Try.f5) = .loop cPl := by kernel_rfl
def restOf : Code → Code
  | .seq _ (.seq _ (.seq (.block _ (.seq _ r)) _)) => r
  | c => c
def tailOf : Code → Code
  | .seq _ (.seq _ (.seq (.block _ _) r)) => r
  | c => c
def plug (r : Code) : Code → Code
  | .seq a (.seq b (.seq (.block id (.seq d _)) e)) => .seq a (.seq b (.seq (.block id (.seq d r)) e))
  | c => c
noncomputable def rPl : Code := restOf cPl
noncomputable def tPl : Code := tailOf cPl
theorem plug_eq : plug rPl cPl = cPl := by kernel_rfl
noncomputable abbrev ePl (F : Nat) (c : Code) (σ : St) (K : Ex → St → OB) : OB := ev (eff Try.prog CR5) Try.f5.ntmps (cnRow 1 TPl) F c σ K
def sl0 (l : List J4) (kd when_ i : Int) : List (Nat × SV) := [(0, vi kd), (4, vi when_), (8, .ptr 1 0), (11, .ptr 2 0), (12, .ptr 3 0), (53, .all 0), (54, vi l.length), (55, vi i)]
def hp0 (l : List J4) (ask : J4) (c w : C5) : Hp := [(0, .arg sS l), (1, .cells 30 [vi ask.1, vi ask.2.1, vi ask.2.2.1, vi ask.2.2.2]), (2, .cells 58 (clkC c.1 c.2.1 c.2.2.1 (cA c) (cB c))), (3, .cells 41 (clkC w.1 w.2.1 w.2.2.1 (cA w) (cB w)))]
def S0 (l : List J4) (kd when_ : Int) (ask : J4) (c w : C5) (i : Int) : St := ⟨sl0 l kd when_ i, hp0 l ask c w, 5⟩
def S9 (l : List J4) (kd when_ : Int) (ask : J4) (c w : C5) (i : Int) (s : J4) : St :=
  ⟨[(0, vi kd), (4, vi when_), (8, .ptr 1 0), (11, .ptr 2 0), (12, .ptr 3 0), (53, .all 0), (54, vi l.length), (55, vi i), (56, .v (.bool true)), (57, .elt 0 4 i.toNat 0), (58, .agg [vi s.1, vi s.2.1, vi s.2.2.1, vi s.2.2.2]), (15, .ptr 53 0)],
   [(0, .arg sS l), (1, .cells 30 [vi ask.1, vi ask.2.1, vi ask.2.2.1, vi ask.2.2.2]), (2, .cells 58 (clkC c.1 c.2.1 c.2.2.1 (cA c) (cB c))), (3, .cells 41 (clkC w.1 w.2.1 w.2.2.1 (cA w) (cB w))), (53, .cells 30 [vi s.1, vi s.2.1, vi s.2.2.1, vi s.2.2.2])], 85⟩
def S1 (l : List J4) (kd when_ : Int) (ask : J4) (c w : C5) (i : Int) : St := ⟨[(0, vi kd), (4, vi when_), (8, .ptr 1 0), (11, .ptr 2 0), (12, .ptr 3 0), (53, .all 0), (54, vi l.length), (55, vi i), (56, .v (.bool false))], hp0 l ask c w, 21⟩
theorem cut (F : Nat) (R : Code) (K : Ex → St → OB) (l : List J4) (kd when_ : Int) (ask : J4) (c w : C5) (i : Int) : ePl F (plug R cPl) (S0 l kd when_ ask c w i) K =
    sel (decide (i < (l.length : Int))) (idxP l i (ePl F R (S9 l kd when_ ask c w i (jAt l i)) (blkK 1 (seqK (eff Try.prog CR5) Try.f5.ntmps (cnRow 1 TPl) F tPl K)))) (K (.exit 0) (S1 l kd when_ ask c w i)) := by kernel_rfl
noncomputable def KPl (F kk : Nat) : Ex → St → OB := rndK (cnRow 1 TPl) cPl (kont (eff Try.prog CR5) Try.f5.ntmps (cnRow 1 TPl) F pPl (bodyOf Try.f5) (finK Try.prog Try.f5 (KX [qBool])))
  (iter kk (loopF (eff Try.prog CR5) Try.f5.ntmps (cnRow 1 TPl) F cPl (kont (eff Try.prog CR5) Try.f5.ntmps (cnRow 1 TPl) F pPl (bodyOf Try.f5) (finK Try.prog Try.f5 (KX [qBool])))))
noncomputable def MPl (F kk : Nat) (l : List J4) (kd when_ : Int) (ask : J4) (c w : C5) (i : Int) (s : J4) : OB :=
  ePl F rPl (S9 l kd when_ ask c w i s) (blkK 1 (seqK (eff Try.prog CR5) Try.f5.ntmps (cnRow 1 TPl) F tPl (KPl F kk)))
theorem end_eq (F kk : Nat) (l : List J4) (kd when_ : Int) (ask : J4) (c w : C5) (i : Int) : KPl F kk (.exit 0) (S1 l kd when_ ask c w i) = yesT := by kernel_rfl
theorem LPl_cut (F kk : Nat) (l : List J4) (kd when_ : Int) (ask : J4) (c w : C5) (i : Int) : LPl F (kk + 1) l kd when_ ask c w i =
    sel (decide (i < (l.length : Int))) (idxP l i (MPl F kk l kd when_ ask c w i (jAt l i))) yesT := by
  have h1 : LPl F (kk + 1) l kd when_ ask c w i = ePl F cPl (S0 l kd when_ ask c w i) (KPl F kk) := loopAt_succ _ _ _ _ cPl_eq kk _
  have h2 := cut F rPl (KPl F kk) l kd when_ ask c w i
  rw [plug_eq, end_eq] at h2
  exact h1.trans h2
end Go.Proofs.Ytmgfaoomdpgbhaa.Ax
namespace Go.Proofs.Ytmgfaoomdpgbhaa.Ax
open Go Go.RowKit Go.Proofs.Ytmgfaoomdpgbhaa.Print
set_option linter.unusedVariables false
set_option linter.unusedSimpArgs false
theorem mid_0 (F kk : Nat) (l : List J4) (kd when_ : Int) (ask : J4) (c w : C5) (i : Int) (P : Q3) : MPl F kk l kd when_ ask c w i (0, P) =
    stepT kd when_ ask c w (0, P) fun c' w' => LPl F kk l kd when_ ask c' w' (IP.wrap (i + 1)) := by kernel_rfl
theorem mid_1 (F kk : Nat) (l : List J4) (kd when_ : Int) (ask : J4) (c w : C5) (i : Int) (P : Q3) : MPl F kk l kd when_ ask c w i (1, P) =
    stepT kd when_ ask c w (1, P) fun c' w' => LPl F kk l kd when_ ask c' w' (IP.wrap (i + 1)) := by kernel_rfl
end Go.Proofs.Ytmgfaoomdpgbhaa.Ax
namespace Go.Proofs.Ytmgfaoomdpgbhaa.Ax
open Go Go.RowKit Go.Proofs.Ytmgfaoomdpgbhaa.Print
set_option linter.unusedVariables false
set_option linter.unusedSimpArgs false
theorem mid_2 (F kk : Nat) (l : List J4) (kd when_ : Int) (ask : J4) (c w : C5) (i : Int) (P : Q3) : MPl F kk l kd when_ ask c w i (2, P) =
    stepT kd when_ ask c w (2, P) fun c' w' => LPl F kk l kd when_ ask c' w' (IP.wrap (i + 1)) := by kernel_rfl
theorem mid_3 (F kk : Nat) (l : List J4) (kd when_ : Int) (ask : J4) (c w : C5) (i : Int) (P : Q3) : MPl F kk l kd when_ ask c w i (3, P) =
    stepT kd when_ ask c w (3, P) fun c' w' => LPl F kk l kd when_ ask c' w' (IP.wrap (i + 1)) := by kernel_rfl
end Go.Proofs.Ytmgfaoomdpgbhaa.Ax
namespace Go.Proofs.Ytmgfaoomdpgbhaa.Ax
open Go Go.RowKit Go.Proofs.Ytmgfaoomdpgbhaa.Print
set_option linter.unusedVariables false
set_option linter.unusedSimpArgs false
theorem mid_more (F kk : Nat) (n : Nat) (l : List J4) (kd when_ : Int) (ask : J4) (c w : C5) (i : Int) (P : Q3) : MPl F kk l kd when_ ask c w i (Int.ofNat (n + 4), P) =
    stepT kd when_ ask c w (Int.ofNat (n + 4), P) fun c' w' => LPl F kk l kd when_ ask c' w' (IP.wrap (i + 1)) := by kernel_rfl
theorem mid_less (F kk : Nat) (n : Nat) (l : List J4) (kd when_ : Int) (ask : J4) (c w : C5) (i : Int) (P : Q3) : MPl F kk l kd when_ ask c w i (Int.negSucc n, P) =
    stepT kd when_ ask c w (Int.negSucc n, P) fun c' w' => LPl F kk l kd when_ ask c' w' (IP.wrap (i + 1)) := by kernel_rfl
end Go.Proofs.Ytmgfaoomdpgbhaa.Ax
namespace Go.Proofs.Ytmgfaoomdpgbhaa.Ax
open Go Go.RowKit Go.Proofs.Ytmgfaoomdpgbhaa.Print
set_option linter.unusedVariables false
set_option linter.unusedSimpArgs false
theorem mid_all (F kk : Nat) (l : List J4) (kd when_ : Int) (ask : J4) (c w : C5) (i : Int) : ∀ s : J4, MPl F kk l kd when_ ask c w i s =
    stepT kd when_ ask c w s fun c' w' => LPl F kk l kd when_ ask c' w' (IP.wrap (i + 1))
  | (Int.ofNat 0, P) => mid_0 F kk l kd when_ ask c w i P
  | (Int.ofNat 1, P) => mid_1 F kk l kd when_ ask c w i P
  | (Int.ofNat 2, P) => mid_2 F kk l kd when_ ask c w i P
  | (Int.ofNat 3, P) => mid_3 F kk l kd when_ ask c w i P
  | (Int.ofNat (n + 4), P) => mid_more F kk n l kd when_ ask c w i P
  | (Int.negSucc n, P) => mid_less F kk n l kd when_ ask c w i P
theorem LPl_eq (F kk : Nat) (l : List J4) (kd when_ : Int) (ask : J4) (c w : C5) (i : Int) : LPl F (kk + 1) l kd when_ ask c w i =
    sel (decide (i < (l.length : Int))) (idxP l i (stepT kd when_ ask c w (jAt l i) fun c' w' => LPl F kk l kd when_ ask c' w' (IP.wrap (i + 1)))) yesT := by
  rw [LPl_cut, mid_all]
def playsT (kd day : Int) (R : C5 → C5 → OB) : OB := sel ((ofV day kd).2.2.2 != 0 || kd == 3)
  (sel (!(rnewV kd day).2.1) (sel (!(rnewV kd day).2.1) yesT noT) (sel (!(rnewV kd day).2.1) yesT noT))
  (sel (!(rnewV kd day).2.1) (sel (!(rnewV kd day).2.1) noT noT) (R ((ofV day kd).1, (ofV day kd).2.1, (ofV day kd).2.2.1, 0, 0) (rnewV kd day).1))
theorem plays_tree (F : Nat) (kd day : Int) (l : List J4) (ask : J4) (when_ : Int) : evX Try.prog CR5 (cnRow 1 TPl) F Try.f5 [qInt, qInt, qSteps, qStep, qInt] [qBool] (kd, day, l, ask, when_, ()) =
    sel (decide (60 < (l.length : Int))) yesT (playsT kd day fun c w => LPl F F l kd when_ ask c w 0) := by kernel_rfl
end Go.Proofs.Ytmgfaoomdpgbhaa.Ax
namespace Go.Proofs.Ytmgfaoomdpgbhaa.Ax
open Go Go.RowKit Go.Proofs.Ytmgfaoomdpgbhaa.Print
set_option linter.unusedVariables false
set_option linter.unusedSimpArgs false
theorem num_good {p : Q3} (h : gB p = true) : rnumV p = numV p.1 p.2.1 p.2.2 := by
  have hn := num_bd h
  have hg := (goodB_iff p.1 p.2.1 p.2.2).1 h
  have hm := many_bd p.1
  unfold rnumV
  unfold numV at hn ⊢
  show IntKind.i64.wrap (IntKind.i64.wrap (IntKind.i64.wrap (IntKind.i64.wrap (p.2.1 - 1970) * manyV p.1) + p.2.2) - 1) = _
  rw [wi (x := p.2.1 - 1970) (by omega) (by omega), wi (x := (p.2.1 - 1970) * manyV p.1) (by omega) (by omega), wi (x := (p.2.1 - 1970) * manyV p.1 + p.2.2) (by omega) (by omega), wi (by omega) (by omega)]
theorem rpl_eq {k y m a b : Int} (hk : k = 1 ∨ k = 2) (hg : goodB k y m = true) (p : Q3) : rplV (k, y, m, a, b) p = plV k y m p.1 p.2.1 p.2.2 := by
  unfold rplV plV
  cases h : gB p with
  | false => rw [if_neg (by intro c; have := c.1; unfold gB at h; rw [h] at this; cases this)]; rfl
  | true =>
    by_cases e : p.1 = k
    · rw [if_pos ⟨h, e⟩, num_good h]
      have hb : (p.1 != k) = false := by rw [e]; exact bne_self_eq_false k
      show (bif false then (-1 : Int) else bif p.1 != k then -1 else IntKind.i64.wrap (numV p.1 p.2.1 p.2.2 - rnumV (k, y, m))) = _
      rw [hb, num_good (p := (k, y, m)) hg]
      have hg1 := (goodB_iff p.1 p.2.1 p.2.2).1 h
      have hg2 := (goodB_iff k y m).1 hg
      simp only [cond_false]
      unfold numV
      rw [e] at hg1 ⊢
      rcases hk with rfl | rfl
      · rw [many1] at hg1 hg2 ⊢
        rw [wi (by omega) (by omega)]; omega
      · rw [many2] at hg1 hg2 ⊢
        rw [wi (by omega) (by omega)]; omega
    · rw [if_neg (fun c => e c.2)]
      have hb : (p.1 != k) = true := by simpa using e
      show (bif false then (-1 : Int) else bif p.1 != k then -1 else _) = _
      rw [hb]; rfl
theorem rst_eq {k y m a b : Int} (hk : k = 1 ∨ k = 2) (hg : goodB k y m = true) (p : Q3) : rstV (k, y, m, a, b) p = stC (k, y, m, a, b) p := by
  unfold rstV
  rw [rpl_eq hk hg]
  show _ = stateV k y m a b p.1 p.2.1 p.2.2
  rw [state_eq hk hg]
  unfold stV
  show (bif decide (plV k y m p.1 p.2.1 p.2.2 < 0) then (0 : Int) else bif decide (plV k y m p.1 p.2.1 p.2.2 < b) then 3 else bif decide (plV k y m p.1 p.2.1 p.2.2 < a) then 2 else 1) = _
  simp only [Bool.cond_decide]
theorem stC_eq {k y m a b : Int} (hk : k = 1 ∨ k = 2) (hg : goodB k y m = true) (p : Q3) : stC (k, y, m, a, b) p = stV (plV k y m p.1 p.2.1 p.2.2) a b := state_eq hk hg a b p.1 p.2.1 p.2.2
theorem rcl_eq {k y m a b : Int} {N : Nat} (c : Clk k y m a b N) (hN : N ≤ 1000) (p : Q3) : rclV (k, y, m, a, b) p = (setA (k, y, m, a, b) (clC (k, y, m, a, b) p).2, (clC (k, y, m, a, b) p).1, ()) := by
  have h1 := c.an
  have h2 := c.b0
  have h3 := c.ba
  unfold rclV clC closeV
  show (bif rstV (k, y, m, a, b) p == 0 then (((k, y, m, a, b), 2, ()) : CE) else _) = _
  rw [rst_eq c.kd c.good, stC_eq c.kd c.good, rpl_eq c.kd c.good]
  show _ = (setA (k, y, m, a, b) (bif noneB k y m then ((1, a) : Int × Int) else bif stateV k y m a b p.1 p.2.1 p.2.2 == 0 then (2, a) else bif stateV k y m a b p.1 p.2.1 p.2.2 == 2 then (70, a) else bif stateV k y m a b p.1 p.2.1 p.2.2 == 3 then (70, a) else bif placeV k y m p.1 p.2.1 p.2.2 != a then (71, a) else (0, IntKind.i64.wrap (a + 1))).2,
    (bif noneB k y m then ((1, a) : Int × Int) else bif stateV k y m a b p.1 p.2.1 p.2.2 == 0 then (2, a) else bif stateV k y m a b p.1 p.2.1 p.2.2 == 2 then (70, a) else bif stateV k y m a b p.1 p.2.1 p.2.2 == 3 then (70, a) else bif placeV k y m p.1 p.2.1 p.2.2 != a then (71, a) else (0, IntKind.i64.wrap (a + 1))).1, ())
  rw [none_no c.kd, state_eq c.kd c.good, place_eq c.kd c.good]
  simp only [cond_false]
  rcases st_cases (plV k y m p.1 p.2.1 p.2.2) a b with h | h | h | h
  · rw [h]; rfl
  · have hle : a ≤ plV k y m p.1 p.2.1 p.2.2 := by
      unfold stV at h
      apply Decidable.byContradiction
      intro hc
      split at h
      · cases h
      · split at h
        · cases h
        · rw [if_pos (by omega)] at h; cases h
    rw [h]
    show (bif decide (a < plV k y m p.1 p.2.1 p.2.2) then (((k, y, m, a, b), 71, ()) : CE) else (upA (k, y, m, a, b), 0, ())) = _
    by_cases e : plV k y m p.1 p.2.1 p.2.2 = a
    · rw [e, decide_eq_false (by omega), bne_self_eq_false]; rfl
    · have hb : (plV k y m p.1 p.2.1 p.2.2 != a) = true := by simpa using e
      rw [hb, decide_eq_true (by omega)]; rfl
  · rw [h]; rfl
  · rw [h]; rfl
theorem rfi_eq {k y m a b : Int} {N : Nat} (c : Clk k y m a b N) (p : Q3) : rfiV (k, y, m, a, b) p = (setB (k, y, m, a, b) (fiC (k, y, m, a, b) p).2, (fiC (k, y, m, a, b) p).1, ()) := by
  unfold rfiV fiC fileV
  show (bif rstV (k, y, m, a, b) p == 0 then (((k, y, m, a, b), 2, ()) : CE) else bif rstV (k, y, m, a, b) p != 2 then ((k, y, m, a, b), 71, ()) else bif rplV (k, y, m, a, b) p != b then ((k, y, m, a, b), 71, ()) else (upB (k, y, m, a, b), 0, ())) = _
  rw [rst_eq c.kd c.good, stC_eq c.kd c.good, rpl_eq c.kd c.good]
  show _ = (setB (k, y, m, a, b) (bif noneB k y m then ((1, b) : Int × Int) else bif stateV k y m a b p.1 p.2.1 p.2.2 == 0 then (2, b) else bif stateV k y m a b p.1 p.2.1 p.2.2 != 2 then (71, b) else bif placeV k y m p.1 p.2.1 p.2.2 != b then (71, b) else (0, IntKind.i64.wrap (b + 1))).2,
    (bif noneB k y m then ((1, b) : Int × Int) else bif stateV k y m a b p.1 p.2.1 p.2.2 == 0 then (2, b) else bif stateV k y m a b p.1 p.2.1 p.2.2 != 2 then (71, b) else bif placeV k y m p.1 p.2.1 p.2.2 != b then (71, b) else (0, IntKind.i64.wrap (b + 1))).1, ())
  rw [none_no c.kd, state_eq c.kd c.good, place_eq c.kd c.good]
  cases (stV (plV k y m p.1 p.2.1 p.2.2) a b == 0) <;> cases (stV (plV k y m p.1 p.2.1 p.2.2) a b != 2) <;> cases (plV k y m p.1 p.2.1 p.2.2 != b) <;> rfl
theorem fr_eq {k y m a b : Int} (hk : k = 1 ∨ k = 2) : frC (k, y, m, a, b) = nx (k, y, m, a, b) a := by
  show frV k y m a = _
  unfold frV
  rw [none_no hk]; rfl
theorem rng_of {a : Int} (h0 : 0 ≤ a) (h1 : a ≤ 1000) : rngB a = true := by rw [rngB_iff]; omega
theorem nx_zero {k y m a b : Int} (hk : k = 1 ∨ k = 2) (d : Int) : zeroB (nx (k, y, m, a, b) d) = ((nx (k, y, m, a, b) d).1 == 0) := by
  show zeroB ((nextV k y m d).1, (nextV k y m d).2.1, (nextV k y m d).2.2.1) = ((nextV k y m d).1 == 0)
  unfold nextV
  have hne : ∀ x z : Int, zeroB (k, x, z) = (k == 0) := by
    intro x z
    have : (k == 0) = false := by rcases hk with rfl | rfl <;> rfl
    unfold zeroB
    rw [this]; rfl
  split
  · split
    · rfl
    · exact hne _ _
  · rfl
theorem rrt_eq {k y m a b : Int} {N : Nat} (c : Clk k y m a b N) (hN : N ≤ 1000) (d : Int) : rrtT (k, y, m, a, b) d = some ((rtC (k, y, m, a, b) d).1, (rtC (k, y, m, a, b) d).2.1, (rtC (k, y, m, a, b) d).2.2, ()) := by
  have h1 := c.an
  have h2 := c.b0
  have h3 := c.ba
  unfold rrtT
  have hr : rngO a (some (nx (k, y, m, a, b) a, ())) = some (nx (k, y, m, a, b) a, ()) := rngO_yes (rng_of (by omega) (by omega)) _
  show sel ((ofV d k).2.2.2 != 0) (some (((0, 0, 0), (0, 0, 0), 30, ()) : RT)) (sel (rstV (k, y, m, a, b) (oO d k) == 0) (some ((0, 0, 0), (0, 0, 0), 30, ())) (obnd (rngO a (some (nx (k, y, m, a, b) a, ()))) fun f =>
    sel (f.1.1 == 0) (some ((0, 0, 0), (0, 0, 0), 70, ())) (sel (rstV (k, y, m, a, b) (oO d k) == 1) (some (oO d k, oO d k, 0, ())) (some (f.1, oO d k, 0, ()))))) = _
  rw [hr, rst_eq c.kd c.good, obnd_some]
  show _ = some ((routeV k y m a b d).1, (routeV k y m a b d).2.1, (routeV k y m a b d).2.2, ())
  unfold routeV
  rw [none_no c.kd]
  have hz : zeroB (frV k y m a) = ((nx (k, y, m, a, b) a).1 == 0) := by
    have : frV k y m a = nx (k, y, m, a, b) a := fr_eq (b := b) c.kd
    rw [this, nx_zero c.kd]
  have hs : stO k y m a b d = stC (k, y, m, a, b) (oO d k) := rfl
  rw [hz, hs]
  have hf : frV k y m a = nx (k, y, m, a, b) a := fr_eq (b := b) c.kd
  rw [hf]
  cases ((ofV d k).2.2.2 != 0) <;> cases (stC (k, y, m, a, b) (oO d k) == 0) <;> cases ((nx (k, y, m, a, b) a).1 == 0) <;> cases (stC (k, y, m, a, b) (oO d k) == 1) <;> rfl
def filedL (c : C5) : Nat → Nat → List Q3
  | 0, _ => []
  | d + 1, i => nx c (i : Int) :: filedL c d (i + 1)
theorem filed_len (c : C5) : ∀ d i, (filedL c d i).length = d
  | 0, _ => rfl
  | d + 1, i => by simp [filedL, filed_len c d (i + 1)]
theorem wrapP {i : Nat} (h : i < 1000000) : IP.wrap ((i : Int) + 1) = ((i + 1 : Nat) : Int) := by
  show IntKind.i64.wrap ((i : Int) + 1) = _
  rw [wi (by omega) (by omega)]; omega
theorem moreP_ok {α β : Type} {l : List α} (h : l.length < 1000000) (x : Option β) : moreP l x = x := by
  unfold moreP
  rw [Nat.ble_eq_true_of_le (by omega)]; rfl
theorem idxP_ok {α β : Type} {l : List α} {i : Nat} (h : i < l.length) (x : Option β) : idxP l (i : Int) x = x := by
  unfold idxP
  rw [decide_eq_true (show (0 : Int) ≤ (i : Int) by omega), decide_eq_true (show (i : Int) < (l.length : Int) by omega), decide_eq_true (show (i : Int).toNat < l.length by simpa using h)]; rfl
theorem LFl_run (F : Nat) (c : C5) : ∀ (d i kk : Nat) (n : Int) (out : List Q3), (i : Int) + d = n → d < kk → i + d ≤ 1000 → out.length ≤ i → LFl F kk c n i out = some (out ++ filedL c d i, ())
  | 0, i, kk, n, out, hi, hk, hb, ho => by
    obtain ⟨k, rfl⟩ : ∃ k, kk = k + 1 := ⟨kk - 1, by omega⟩
    rw [LFl_eq, decide_eq_false (by omega), sel_false]
    simp [filedL]
  | d + 1, i, kk, n, out, hi, hk, hb, ho => by
    obtain ⟨k, rfl⟩ : ∃ k, kk = k + 1 := ⟨kk - 1, by omega⟩
    rw [LFl_eq, decide_eq_true (by omega), sel_true, rng_of (by omega) (by omega), sel_true, moreP_ok (by omega), wrapP (by omega), LFl_run F c d (i + 1) k n (out ++ [nx c i]) (by omega) (by omega) (by omega) (by simp; omega)]
    simp [filedL]
theorem LAl_run (F : Nat) (c : C5) : ∀ (d i kk : Nat) (out : List Q3), (i : Int) + d = cB c → d < kk → i + d ≤ 1000 → out.length ≤ i → LAl F kk c i out = some (out ++ filedL c d i, ())
  | 0, i, kk, out, hi, hk, hb, ho => by
    obtain ⟨k, rfl⟩ : ∃ k, kk = k + 1 := ⟨kk - 1, by omega⟩
    rw [LAl_eq, decide_eq_false (by omega), sel_false]
    simp [filedL]
  | d + 1, i, kk, out, hi, hk, hb, ho => by
    obtain ⟨k, rfl⟩ : ∃ k, kk = k + 1 := ⟨kk - 1, by omega⟩
    rw [LAl_eq, decide_eq_true (by omega), sel_true, rng_of (by omega) (by omega), sel_true, moreP_ok (by omega), wrapP (by omega), LAl_run F c d (i + 1) k (out ++ [nx c i]) (by omega) (by omega) (by omega) (by simp; omega)]
    simp [filedL]
theorem LSa_run (F : Nat) (a : List Q3) (ha : a.length ≤ 1000) : ∀ (d i kk : Nat), i + d = a.length → d < kk → LSa F kk a a i = some (true, ())
  | 0, i, kk, hi, hk => by
    obtain ⟨k, rfl⟩ : ∃ k, kk = k + 1 := ⟨kk - 1, by omega⟩
    rw [LSa_eq, decide_eq_false (by omega)]; rfl
  | d + 1, i, kk, hi, hk => by
    obtain ⟨k, rfl⟩ : ∃ k, kk = k + 1 := ⟨kk - 1, by omega⟩
    have hs : perEq (pAt a (i : Int)) (pAt a (i : Int)) = true := by unfold perEq; simp
    rw [LSa_eq, decide_eq_true (by omega), sel_true, idxP_ok (by omega), idxP_ok (by omega), hs, wrapP (by omega), LSa_run F a ha d (i + 1) k (by omega) (by omega)]; rfl
theorem filed_same {k y m a b : Int} {N : Nat} (c : Clk k y m a b N) (hN : N ≤ 100) : ∃ L : List Q3, vFl (k, y, m, a, b) = some (L, ()) ∧ vAl (k, y, m, a, b) = some (L, ()) ∧ vSa L L = some (true, ()) := by
  have h1 := c.an
  have h2 := c.b0
  have h3 := c.ba
  obtain ⟨n, hn⟩ : ∃ n : Nat, (n : Int) = b := ⟨b.toNat, by omega⟩
  refine ⟨filedL (k, y, m, a, b) n 0, ?_, ?_, ?_⟩
  · have h := LFl_run 200 (k, y, m, a, b) n 0 200 b [] (by omega) (by omega) (by omega) (by simp)
    unfold vFl
    rw [fl_tree]
    show sel (noneB k y m) _ _ = _
    rw [none_no c.kd, sel_false]
    rw [List.nil_append] at h
    exact h
  · have h := LAl_run 200 (k, y, m, a, b) n 0 200 [] (by show (0 : Int) + n = b; omega) (by omega) (by omega) (by simp)
    unfold vAl
    rw [al_tree]
    rw [List.nil_append] at h
    exact h
  · unfold vSa
    have hl := filed_len (k, y, m, a, b) n 0
    rw [sa_tree, bne_self_eq_false, sel_false]
    exact LSa_run 200 _ (by omega) n 0 200 (by omega) (by omega)
theorem perEq_self (p : Q3) : perEq p p = true := by unfold perEq; simp
theorem chk_same {k y m a b : Int} {N : Nat} (c : Clk k y m a b N) (hN : N ≤ 100) (when_ : Int) (ask : J4) (P : Q3) (e : Int) (R : OB) : chk k when_ ask (k, y, m, a, b) (k, y, m, a, b) P e e R = R := by
  have h1 := c.an
  have h2 := c.b0
  have h3 := c.ba
  have hr : rngB a = true := rng_of (by omega) (by omega)
  obtain ⟨L, f1, f2, f3⟩ := filed_same c hN
  unfold chk frW
  rw [rrt_eq c (by omega), rst_eq c.kd c.good, rst_eq c.kd c.good, fr_eq c.kd]
  show sel (rngB a) (obnd (some _) fun q => _) none = R
  rw [hr, sel_true, obnd_some]
  have hk : kindV k y m = k := by unfold kindV; rw [none_no c.kd]; rfl
  simp only [bne_self_eq_false, perEq_self, Bool.not_true, sel_false]
  show sel (rngB a) (obnd (rngO a (some (nx (k, y, m, a, b) a, ()))) fun z => sel (!perEq (nx (k, y, m, a, b) a) z.1) noT (sel (kindV k y m != k) noT (obnd (vFl (k, y, m, a, b)) fun x => obnd (vAl (k, y, m, a, b)) fun y => obnd (vSa x.1 y.1) fun s => sel (!s.1) noT R))) none = R
  rw [hr, sel_true, rngO_yes hr, obnd_some, perEq_self, hk, f1, f2, bne_self_eq_false]
  simp only [obnd_some, f3]
  rfl
theorem Clk.more {k y m a b : Int} {N : Nat} (c : Clk k y m a b N) : Clk k y m a b (N + 1) := ⟨c.kd, c.good, c.b0, c.ba, by have := c.an; omega⟩
theorem frW_eq {k y m a b : Int} (ra : rngB a = true) (f : Q3 → OB) : frW (k, y, m, a, b) f = f (nx (k, y, m, a, b) a) := by
  unfold frW
  show obnd (rngO a (some (nx (k, y, m, a, b) a, ()))) _ = _
  rw [rngO_yes ra]; rfl
theorem setA_eq (k y m a b x : Int) : setA (k, y, m, a, b) x = (k, y, m, x, b) := rfl
theorem setB_eq (k y m a b x : Int) : setB (k, y, m, a, b) x = (k, y, m, a, x) := rfl
theorem close_same {k y m a b : Int} {N : Nat} (c : Clk k y m a b N) (hN : N ≤ 90) (when_ : Int) (ask : J4) (P : Q3) {R : C5 → C5 → OB} {T : OB} (hR : ∀ a' b', Clk k y m a' b' (N + 1) → R (k, y, m, a', b') (k, y, m, a', b') = T) :
    chk k when_ ask (setA (k, y, m, a, b) (clC (k, y, m, a, b) P).2) (rclV (k, y, m, a, b) P).1 P (clC (k, y, m, a, b) P).1 (rclV (k, y, m, a, b) P).2.1 (R (setA (k, y, m, a, b) (clC (k, y, m, a, b) P).2) (rclV (k, y, m, a, b) P).1) = T := by
  have cc : Clk k y m (clC (k, y, m, a, b) P).2 b (N + 1) := c.close (by omega) P
  rw [rcl_eq c (by omega)]
  generalize clC (k, y, m, a, b) P = z at *
  simp only [setA_eq]
  rw [chk_same cc (by omega)]
  exact hR _ _ cc
theorem file_same {k y m a b : Int} {N : Nat} (c : Clk k y m a b N) (hN : N ≤ 90) (when_ : Int) (ask : J4) (P : Q3) {R : C5 → C5 → OB} {T : OB} (hR : ∀ a' b', Clk k y m a' b' (N + 1) → R (k, y, m, a', b') (k, y, m, a', b') = T) :
    chk k when_ ask (setB (k, y, m, a, b) (fiC (k, y, m, a, b) P).2) (rfiV (k, y, m, a, b) P).1 P (fiC (k, y, m, a, b) P).1 (rfiV (k, y, m, a, b) P).2.1 (R (setB (k, y, m, a, b) (fiC (k, y, m, a, b) P).2) (rfiV (k, y, m, a, b) P).1) = T := by
  have cf : Clk k y m a (fiC (k, y, m, a, b) P).2 (N + 1) := c.file (by omega) P
  rw [rfi_eq c]
  generalize fiC (k, y, m, a, b) P = z at *
  simp only [setB_eq]
  rw [chk_same cf (by omega)]
  exact hR _ _ cf
theorem rnd_same {k y m a b : Int} {N : Nat} (c : Clk k y m a b N) (hN : N ≤ 90) (ra : rngB a = true) (when_ : Int) (ask : J4) (t : Int) (P : Q3) {R : C5 → C5 → OB} {T : OB} (hR : ∀ a' b', Clk k y m a' b' (N + 1) → R (k, y, m, a', b') (k, y, m, a', b') = T) :
    rnd k when_ ask (k, y, m, a, b) (k, y, m, a, b) t P R = T := by
  unfold rnd
  rw [close_same c hN when_ ask P hR, file_same c hN when_ ask P hR, frW_eq ra, chk_same c (by omega), hR _ _ c.more]
  generalize (t == 0) = b0
  generalize (t == 1) = b1
  generalize (t == 2) = b2
  generalize (t == 3) = b3
  cases b0 <;> cases b1 <;> cases b2 <;> cases b3 <;> rfl
theorem step_same {k y m a b : Int} {N : Nat} (c : Clk k y m a b N) (hN : N ≤ 90) (when_ : Int) (ask s : J4) {R : C5 → C5 → OB} {T : OB} (hR : ∀ a' b', Clk k y m a' b' (N + 1) → R (k, y, m, a', b') (k, y, m, a', b') = T) :
    stepT k when_ ask (k, y, m, a, b) (k, y, m, a, b) s R = T := by
  have h1 := c.an
  have h2 := c.b0
  have h3 := c.ba
  have ra : rngB a = true := rng_of (by omega) (by omega)
  have rb : rngB (cB (k, y, m, a, b)) = true := rng_of (a := b) (by omega) (by omega)
  unfold stepT
  rw [frW_eq ra, rb, rnd_same c hN ra when_ ask _ _ hR, rnd_same c hN ra when_ ask _ _ hR, rnd_same c hN ra when_ ask _ _ hR]
  generalize (s.1 == 2) = b2
  generalize (s.1 == 3) = b3
  cases b2 <;> cases b3 <;> rfl
theorem LPl_true (F : Nat) (l : List J4) (hl : l.length ≤ 60) (k y m when_ : Int) (ask : J4) : ∀ (d i kk : Nat) (a b : Int), i + d = l.length → d < kk → Clk k y m a b i → LPl F kk l k when_ ask (k, y, m, a, b) (k, y, m, a, b) i = yesT
  | 0, i, kk, a, b, hi, hk, c => by
    obtain ⟨kk, rfl⟩ : ∃ q, kk = q + 1 := ⟨kk - 1, by omega⟩
    rw [LPl_eq, decide_eq_false (by omega)]; rfl
  | d + 1, i, kk, a, b, hi, hk, c => by
    obtain ⟨kk, rfl⟩ : ∃ q, kk = q + 1 := ⟨kk - 1, by omega⟩
    rw [LPl_eq, decide_eq_true (by omega), sel_true, idxP_ok (by omega), wrapP (by omega)]
    exact step_same c (by omega) when_ ask _ (fun a' b' c' => LPl_true F l hl k y m when_ ask d (i + 1) kk a' b' (by omega) (by omega) c')
theorem plays_ok (kd day : Int) (R : C5 → C5 → OB) (hR : ((ofV day kd).2.2.2 != 0 || kd == 3) = false → R ((ofV day kd).1, (ofV day kd).2.1, (ofV day kd).2.2.1, 0, 0) ((ofV day kd).1, (ofV day kd).2.1, (ofV day kd).2.2.1, 0, 0) = yesT) : playsT kd day R = yesT := by
  unfold playsT rnewV
  cases hn : ((ofV day kd).2.2.2 != 0 || kd == 3) with
  | true => rfl
  | false => exact hR hn
theorem sel_over {x : OB} (n : Nat) (h : n ≤ 60 → x = yesT) : sel (decide (60 < (n : Int))) yesT x = yesT := by
  by_cases c : 60 < (n : Int)
  · rw [decide_eq_true c]; rfl
  · rw [decide_eq_false c, sel_false]; exact h (by omega)
theorem LPl_first (F : Nat) (hF : F = 100) (l : List J4) (hl : l.length ≤ 60) (kd day when_ : Int) (ask : J4) (hn : ((ofV day kd).2.2.2 != 0 || kd == 3) = false) :
    LPl F F l kd when_ ask ((ofV day kd).1, (ofV day kd).2.1, (ofV day kd).2.2.1, 0, 0) ((ofV day kd).1, (ofV day kd).2.1, (ofV day kd).2.2.1, 0, 0) 0 = yesT := by
  have c := clk_new hn
  have hk : (ofV day kd).1 = kd := by
    rw [Bool.or_eq_false_iff] at hn
    exact (of_good day kd (by simpa using hn.1)).2
  have h0 : (0 : Int) = ((0 : Nat) : Int) := rfl
  have := LPl_true F l hl (ofV day kd).1 (ofV day kd).2.1 (ofV day kd).2.2.1 when_ ask l.length 0 F 0 0 (by omega) (by omega) c
  rw [hk] at this ⊢
  rw [← h0] at this
  exact this
theorem plays_all (F : Nat) (hF : F = 100) (kd day : Int) (l : List J4) (ask : J4) (when_ : Int) : evX Try.prog CR5 (cnRow 1 TPl) F Try.f5 [qInt, qInt, qSteps, qStep, qInt] [qBool] (kd, day, l, ask, when_, ()) = some (true, ()) :=
  (plays_tree F kd day l ask when_).trans (sel_over l.length fun hl => plays_ok kd day _ fun hn => LPl_first F hF l hl kd day when_ ask hn)
end Go.Proofs.Ytmgfaoomdpgbhaa.Ax
namespace Go.Proofs.Ytmgfaoomdpgbhaa.Print
open Go Go.RowKit Go.Proofs.YtmgfaoomdpgbhaaW.PrintWords Go.Proofs.Ytmgfaoomdpgbhaa.Ax
set_option linter.unusedVariables false
set_option linter.unusedSimpArgs false
structure S30 where
  f0 : Int
  f1 : S24
def k30 : Kd S30 := Kd.iso (Kd.pair (Kd.int .i64) k24) (fun x : S30 => (x.f0, x.f1))
def stepT (x : S30) : TT [.int .i64, .int .i64, .int .i64, .int .i64] := (x.f0, x.f1.f0, x.f1.f1, x.f1.f2)
theorem stepT_enc : ∀ (w : World) (x : S30) (c : List Value), k30.K w x c → c = enc [.int .i64, .int .i64, .int .i64, .int .i64] (stepT x) := by
  intro w x c h
  obtain ⟨_, _, rfl, rfl, h⟩ := h
  have := k24_open h
  subst this
  rfl
end Go.Proofs.Ytmgfaoomdpgbhaa.Print
namespace Go.Proofs.Ytmgfaoomdpgbhaa.Print
open Go Go.RowKit Go.Proofs.YtmgfaoomdpgbhaaW.PrintWords Go.Proofs.Ytmgfaoomdpgbhaa.Ax
set_option linter.unusedVariables false
set_option linter.unusedSimpArgs false
def octroilaw27_PeriodPlays.f (a0 a1 : Int) (l2 : List S30) (a3_0 a3_1 a3_2 a3_3 a4 : Int) : Option Bool := some true
theorem octroilaw27_PeriodPlays.calls (a0 a1 : Int) (A2 : Option Addr) (c2 : Nat) (l2 : List S30) (a3_0 a3_1 a3_2 a3_3 a4 : Int) (r : Bool) (w : World) (hr2 : Kd.C k30 w A2 l2.length l2) (hc2 : l2.length ≤ c2) (h : octroilaw27_PeriodPlays.f a0 a1 l2 a3_0 a3_1 a3_2 a3_3 a4 = some r) :
    Calls Try.prog 5 #[.int .i64 a0, .int .i64 a1, .slice A2 l2.length c2, .agg #[.int .i64 a3_0, .int .i64 a3_1, .int .i64 a3_2, .int .i64 a3_3], .int .i64 a4] w fun e w' => e = .returned (.bool r) ∧ Below w.heap.size w w' := by
  obtain rfl : true = r := Option.some.inj h
  obtain ⟨L, h1, h2⟩ := row_of_C stepT_enc rfl (by decide) hr2 hc2
  have := calls_of_X mixed Try.func5 CR5_ok (fun B' w => cnRow_ok) (plays_all 100 rfl a0 a1 (l2.map stepT) (a3_0, a3_1, a3_2, a3_3) a4) (fun _ => L) w (fun j o hj => by
    obtain ⟨rfl, rfl⟩ := look_one hj
    exact ⟨Nat.le_refl _, by decide, rfl, rfl, h2 _⟩)
  have hargs : (denL (fun _ => L) (encA [qInt, qInt, qSteps, qStep, qInt] (a0, a1, l2.map stepT, (a3_0, a3_1, a3_2, a3_3), a4, ()) 0)).toArray = #[.int .i64 a0, .int .i64 a1, .slice A2 l2.length c2, .agg #[.int .i64 a3_0, .int .i64 a3_1, .int .i64 a3_2, .int .i64 a3_3], .int .i64 a4] := by
    have h3 := h1 (fun _ => L) 0 rfl
    show (#[_, _, den (fun _ => L) (.all 0), _, _] : Array Value) = _
    rw [h3]; rfl
  exact cast (congrArg (fun z => Calls Try.prog 5 z w fun e w' => e = .returned (.bool true) ∧ Below w.heap.size w w') hargs) this
end Go.Proofs.Ytmgfaoomdpgbhaa.Print
namespace Go.Proofs.Ytmgfaoomdpgbhaa.Print
open Go.RowKit Go.Proofs.YtmgfaoomdpgbhaaW.PrintWords Go.Proofs.YtmgfaoomdpgbhaaW.PrintLast
def octroilaw27_PeriodPlays.Pure : Prop := ∀ (a0 : Int) (a1 : Int) (l2 : List (S30)) (a3_0 : Int) (a3_1 : Int) (a3_2 : Int) (a3_3 : Int) (a4 : Int), (Lit.int .i64 a0).wf = true → (Lit.int .i64 a1).wf = true → l2.length ≤ maxLen → l2.length * 32 ≤ 140737488351232 → (∀ x ∈ l2, ((Lit.int .i64 x.f0).wf = true ∧ ((Lit.int .i64 x.f1.f0).wf = true ∧ ((Lit.int .i64 x.f1.f1).wf = true ∧ (Lit.int .i64 x.f1.f2).wf = true)))) → (Lit.int .i64 a3_0).wf = true → (Lit.int .i64 a3_1).wf = true → (Lit.int .i64 a3_2).wf = true → (Lit.int .i64 a3_3).wf = true → (Lit.int .i64 a4).wf = true → octroilaw27_PeriodPlays.f a0 a1 l2 a3_0 a3_1 a3_2 a3_3 a4 = some true
end Go.Proofs.Ytmgfaoomdpgbhaa.Print
namespace Go.Proofs.Ytmgfaoomdpgbhaa.Pure
open Go.RowKit Go.Proofs.Ytmgfaoomdpgbhaa.Print
theorem PeriodPlays : octroilaw27_PeriodPlays.Pure := by
  unfold octroilaw27_PeriodPlays.Pure
  intros; rfl
end Go.Proofs.Ytmgfaoomdpgbhaa.Pure
namespace Go.Proofs.Ytmgfaoomdpgbhaa.Ax
open Go Go.RowKit
set_option linter.unusedVariables false
set_option linter.unusedSimpArgs false
def takeRow (ty : TypeId) (s : List Sc) (v : SV) (h : Hp) : Option (List (TT s) × Hp) := match v with
  | .v (.slice none 0 0) => some ([], h)
  | .all k => match look h k with
    | some (.row ty' s' l) => cond (Nat.beq ty ty') (match castL s' s l with
      | none => none
      | some l' => some (l', put h k .dead)) none
    | _ => none
  | .slc k n 0 m (some c) => cond (Nat.beq n s.length && Nat.beq m c) (match look h k with
    | some (.cells ty' cs) => cond (Nat.beq ty ty') (match decRows s n m cs with
      | none => none
      | some l' => some (l', put h k .dead)) none
    | _ => none) none
  | _ => none
def rowCell (id j : Nat) (ty : TypeId) (s : List Sc) (σ : St) : Option St := match look σ.hp id with
  | some (.cells t c) => match c[j]? with
    | some v => match takeRow ty s v σ.hp with
      | some (l, h') => match look h' id with
        | some (.cells t' c') => match Nat.beq t t' && Nat.blt id σ.nx with
          | true => some ⟨σ.sl, put (put h' σ.nx (.row ty s l)) id (.cells t (c.set j (.all σ.nx))), σ.nx + 1⟩
          | false => none
        | _ => none
      | none => none
    | none => none
  | _ => none
def rowRes (j : Nat) (ty : TypeId) (s : List Sc) (σ : St) : Option St := match look σ.sl 0 with
  | some (.tup c) => match c[j]? with
    | some v => match takeRow ty s v σ.hp with
      | some (l, h') => some ⟨put σ.sl 0 (.tup (c.set j (.all σ.nx))), put h' σ.nx (.row ty s l), σ.nx + 1⟩
      | none => none
    | none => none
  | some v => match takeRow ty s v σ.hp with
    | some (l, h') => some ⟨put σ.sl 0 (.all σ.nx), put h' σ.nx (.row ty s l), σ.nx + 1⟩
    | none => none
  | none => none
def dropNm (id : Nat) (σ : St) : Option St := match look σ.hp id with
  | some _ => some ⟨σ.sl, put σ.hp id .dead, σ.nx⟩
  | none => none
inductive Rw where
  | drop (id : Nat)
  | cell (id j : Nat) (ty : TypeId) (s : List Sc)
  | res (j : Nat) (ty : TypeId) (s : List Sc)
def rows : List Rw → St → Option St
  | [], σ => some σ
  | .drop id :: l, σ => match dropNm id σ with
    | none => none
    | some σ' => rows l σ'
  | .cell id j ty s :: l, σ => match rowCell id j ty s σ with
    | none => none
    | some σ' => rows l σ'
  | .res j ty s :: l, σ => match rowRes j ty s σ with
    | none => none
    | some σ' => rows l σ'
section
variable {P : Program} {C : FuncId → Option Con} {cn : Nat → St → Option St}
end
end Go.Proofs.Ytmgfaoomdpgbhaa.Ax
