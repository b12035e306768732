/- AX 23: callees that write to what they are handed, as plain functions of what stands there (conV); rows that are laid under names of their own at a callee's end. -/
import Derived.Test.YtogmjkmnknaieaaAx21
import Derived.Test.YtogmjkmnknaieaaWideA
import Derived.Test.YtogmjkmnknaieaaWideC
import Derived.Test.YtogmjkmnknaieaaX0
import Derived.Test.YtogmjkmnknaieaaAx14
import Derived.Test.YtogmjkmnknaieaaAx4
import Derived.Test.YtogmjkmnknaieaaX5
import Derived.Test.YtogmjkmnknaieaaX6
import Derived.Test.YtogmjkmnknaieaaX8
import Derived.Test.YtogmjkmnknaieaaX9
import Derived.Test.YtogmjkmnknaieaaRef02A
import Derived.Test.YtogmjkmnknaieaaFxNamed
import Derived.Test.YtogmjkmnknaieaaAx20
import Derived.Test.YtogmjkmnknaieaaAx22
import Derived.Test.YtogmjkmnknaieaaAx8
import Derived.Test.YtogmjkmnknaieaaX2
import Derived.Test.YtogmjkmnknaieaaX4
namespace Go.Proofs.Ytogmjkmnknaieaa.Ax
open Go Go.RowKit Go.Proofs.Ytogmjkmnknaieaa.Print
set_option linter.unusedVariables false
set_option linter.unusedSimpArgs false
noncomputable abbrev autoP (own : Bool) (C : FuncId → Option Con) (fn : Func) : Con := conAuto Try.prog C cn0 40 own fn
theorem autoP_ok {f : FuncId} {fn : Func} (own : Bool) {C : FuncId → Option Con} (hC : ∀ B' g φ, C g = some φ → ConOk Try.prog B' g φ) (hf : Try.prog.funcs[f]? = some fn) (hname : (fn.name == "runtime.NumGoroutine") = false) (hbody : fn.body.isSome = true) (B : Nat → Prop) : ConOk Try.prog B f (autoP own C fn) :=
  conAuto_ok mixed hf hname hbody hC (fun B' w0 => cn0_ok B' w0 _) own B
theorem toldP {f : FuncId} {fn : Func} {C : FuncId → Option Con} (hC : ∀ B' g φ, C g = some φ → ConOk Try.prog B' g φ) (hf : Try.prog.funcs[f]? = some fn) (hname : (fn.name == "runtime.NumGoroutine") = false) (hbody : fn.body.isSome = true) {lin lout : List Pc} (V : PT lin → Option (PT lout))
    (hV : ∀ x y, V x = some y → evX Try.prog C cn0 40 fn lin lout x = some y) (h1 : rowsP lout ≤ 1) (B : Nat → Prop) : ConOk Try.prog B f (conX lin lout V) :=
  conX_ok mixed hf hname hbody hC (fun B' w => cn0_ok B' w _) lin lout h1 (fun _ => 40) V hV B
def cGood : Con := fun args _ => match args with
  | [.agg [.v (.int .i64 k), .v (.int .i64 y), .v (.int .i64 i)]] => .ret ⟨.v (.bool (goodB k y i)), []⟩
  | _ => .fail
theorem cGood_ok : ∀ B, ConOk Try.prog B 18 cGood := by
  intro B args ρ h w lo out ids hr hrh hfr hfa up
  unfold cGood at hr
  split at hr
  · rename_i k y i
    cases hr
    exact gives_same (s := .v (.bool (goodB k y i))) (fn := Try.f18) Try.func18 (by kernel_rfl) (by kernel_rfl) hrh up (civil_Good.calls k y i _ w (pro_good k y i))
  · cases hr
def cOfC : Con := fun args _ => match args with
  | [.v (.int .i64 n), .v (.int .i64 kd)] => .ret ⟨.tup [.agg [.v (.int .i64 (ofV n kd).1), .v (.int .i64 (ofV n kd).2.1), .v (.int .i64 (ofV n kd).2.2.1)], .v (.int .i64 (ofV n kd).2.2.2)], []⟩
  | _ => .fail
theorem cOfC_ok : ∀ B, ConOk Try.prog B 31 cOfC := by
  intro B args ρ h w lo out ids hr hrh hfr hfa up
  unfold cOfC at hr
  split at hr
  · rename_i n kd
    cases hr
    exact gives_same (s := .tup [.agg [.v (.int .i64 (ofV n kd).1), .v (.int .i64 (ofV n kd).2.1), .v (.int .i64 (ofV n kd).2.2.1)], .v (.int .i64 (ofV n kd).2.2.2)]) (fn := Try.f31) Try.func31 (by kernel_rfl) (by kernel_rfl) hrh up (civil_Of.calls n kd _ _ _ _ w (pro_of n kd))
  · cases hr
def cNamed : Con := fun args _ => match args with
  | [.v (.string s)] => .ret ⟨.v (.bool (namedV s)), []⟩
  | _ => .fail
theorem cNamed_ok (B) : ConOk Try.prog B 17 cNamed := by
  intro args ρ h w lo out ids hr hrh hfr hfa up
  unfold cNamed at hr
  split at hr
  · rename_i s
    cases hr
    exact gives_same (s := .v (.bool (namedV s))) (fn := Try.f17) Try.func17 (by kernel_rfl) (by kernel_rfl) hrh up (named_any s w)
  · cases hr
abbrev ksF : List Sc := [.str, .int .i64, .int .i64, .int .i64]
abbrev vsF : List Sc := [.int .i64, .int .i64]
abbrev KF := ByteArray × Int × Int × Int
abbrev VF := Int × Int
def castM (ks vs : List Sc) (l : List (TT ks × TT vs)) : Option (List (KF × VF)) := match h : (scEq ks ksF && scEq vs vsF) with
  | true => some ((scEq_eq (Bool.and_eq_true_iff.1 h).1 ▸ scEq_eq (Bool.and_eq_true_iff.1 h).2 ▸ l : List (TT ksF × TT vsF)))
  | false => none
theorem castM_eq {ks vs : List Sc} {l : List (TT ks × TT vs)} {l' : List (KF × VF)} (h : castM ks vs l = some l') : ∃ (e : ks = ksF) (e' : vs = vsF), (e ▸ e' ▸ l : List (TT ksF × TT vsF)) = l' := by
  unfold castM at h
  split at h
  · cases h; exact ⟨_, _, rfl⟩
  · cases h
def mapR (j : Nat) (k : List (KF × VF) → Rd Out) : Rd Out := .obj j fun o => match o with
  | .mapo ks vs l => .opt (castM ks vs l) k
  | _ => .fail
def tabR (id : Nat) (k : Nat → List (KF × VF) → Rd Out) : Rd Out := .obj id fun o => match o with
  | .cells 47 [.map j] => mapR j (k j)
  | .ro 47 [.map j] => mapR j (k j)
  | _ => .fail
theorem mapR_run {j : Nat} {k : List (KF × VF) → Rd Out} {h : Hp} {out : Out} {ids : List Nat} (hr : (mapR j k).run h = some (out, ids)) : ∃ l ids', look h j = some (.mapo ksF vsF l) ∧ (k l).run h = some (out, ids') := by
  unfold mapR at hr
  obtain ⟨o, ids1, ho, hr⟩ := obj_run hr
  split at hr
  · rename_i ks vs l
    obtain ⟨l', hl, hr⟩ := opt_run hr
    obtain ⟨rfl, rfl, rfl⟩ := castM_eq hl
    exact ⟨_, ids1, ho, hr⟩
  · cases hr
theorem tabR_run {id : Nat} {k : Nat → List (KF × VF) → Rd Out} {h : Hp} {out : Out} {ids : List Nat} (hr : (tabR id k).run h = some (out, ids)) : ∃ j l ids' o, look h id = some o ∧ (o = .cells 47 [.map j] ∨ o = .ro 47 [.map j]) ∧ look h j = some (.mapo ksF vsF l) ∧ (k j l).run h = some (out, ids') := by
  unfold tabR at hr
  obtain ⟨o, ids1, ho, hr⟩ := obj_run hr
  split at hr
  · rename_i j
    obtain ⟨l, ids2, hl, hr⟩ := mapR_run hr
    exact ⟨j, l, ids2, _, ho, .inl rfl, hl, hr⟩
  · rename_i j
    obtain ⟨l, ids2, hl, hr⟩ := mapR_run hr
    exact ⟨j, l, ids2, _, ho, .inr rfl, hl, hr⟩
  · cases hr
def cTab {X : Type} (e : X → SV) (V : List SV → List (KF × VF) → Option (X × List (KF × VF))) : Con := fun args lo => match args with
  | .ptr id 0 :: rest => cond (ltL 0 rest) (tabR id fun j l => .opt (V rest l) fun y => .ret ⟨e y.1, [(j, .mapo ksF vsF y.2)]⟩) .fail
  | _ => .fail
def cTabR {X : Type} (e : X → SV) (V : List SV → List (KF × VF) → Option X) : Con := fun args lo => match args with
  | .ptr id 0 :: rest => cond (ltL 0 rest) (tabR id fun j l => .opt (V rest l) fun y => .ret ⟨e y, []⟩) .fail
  | _ => .fail
def hcT (l : List (KF × VF)) : Hp := [(0, .ro 47 [.map 1]), (1, .mapo ksF vsF l)]
noncomputable def tabEv (C : FuncId → Option Con) (fn : Func) (rest : List SV) (l : List (KF × VF)) : Option (SV × Hp) := evFn Try.prog C cn0 40 fn (.ptr 0 0 :: rest) (hcT l) 2 (KG (gcSt [0] 2) 2)
theorem cTab_ok {f : FuncId} {fn : Func} {c0 : Code} {C : FuncId → Option Con} (hC : ∀ B' g φ, C g = some φ → ConOk Try.prog B' g φ) (hf : Try.prog.funcs[f]? = some fn) (hname : (fn.name == "runtime.NumGoroutine") = false) (hbody : fn.body = some c0)
    {X : Type} {e : X → SV} (he : ∀ x, (e x).lt 0 = true) {V : List SV → List (KF × VF) → Option (X × List (KF × VF))} (hV : ∀ rest l y, V rest l = some y → tabEv C fn rest l = some (e y.1, hcT y.2)) (B : Nat → Prop) : ConOk Try.prog B f (cTab e V) := by
  intro args ρ h w lo out ids hr hrh hfr hfa up
  unfold cTab at hr
  split at hr
  · rename_i id rest
    obtain ⟨hrest, hr⟩ := cond_run hr
    obtain ⟨j, l, ids', o, ho, ho', hj, hr⟩ := tabR_run hr
    obtain ⟨y, hy, hr⟩ := opt_run hr
    have hy1 := he y.1
    cases hr
    obtain ⟨m, hm⟩ : ∃ m : Nat → Nat, m = fun i => if i = 0 then id else if i = 1 then j else lo + wide := ⟨_, rfl⟩
    have m0 : m 0 = id := by rw [hm]; rfl
    have m1 : m 1 = j := by rw [hm]; rfl
    have hne : id ≠ j := fun e => by subst e; rw [ho] at hj; rcases ho' with h | h <;> rw [h] at hj <;> cases hj
    have look01 : ∀ i oc, look (hcT l) i = some oc → (i = 0 ∧ oc = .ro 47 [.map 1]) ∨ (i = 1 ∧ oc = .mapo ksF vsF l) := by
      intro i oc hi
      unfold hcT at hi
      simp only [look] at hi
      by_cases e0 : 0 = i
      · subst e0; cases hi; exact .inl ⟨rfl, rfl⟩
      · rw [beq_no e0] at hi
        by_cases e1 : 1 = i
        · subst e1; cases hi; exact .inr ⟨rfl, rfl⟩
        · rw [beq_no e1] at hi; cases hi
    have renr : ∀ l : List SV, ltL 0 l = true → renL m l = l := by
      intro l hl
      exact renL_lt0 m l hl
    have := con_ownG (B := B) (cn := cn0) (F := 40) mixed hf hname hbody hC (p := 2) (fun B' w0 _ => cn0_ok B' w0 _) (.ptr 0 0 :: rest) m (hcT l) (e y.1) (hcT y.2) (gc_GOk 2) (by have := hV rest l y hy; unfold tabEv at this; exact this) ρ h w lo hrh hfr up
      (by simp only [ltL, SV.lt, Bool.and_eq_true]; exact ⟨rfl, ltL_mono (Nat.zero_le _) rest hrest⟩)
      (fun i oc hi => by rcases look01 i oc hi with ⟨rfl, rfl⟩ | ⟨rfl, rfl⟩ <;> exact ⟨by decide, rfl⟩)
      (fun i hi => by
        match i, hi with
        | 0, _ => rw [m0]; exact (hfr id o ho).1
        | 1, _ => rw [m1]; exact (hfr j _ hj).1)
      (fun i oc hi => by
        rcases look01 i oc hi with ⟨rfl, rfl⟩ | ⟨rfl, rfl⟩
        · rw [m0]
          refine ⟨o, ho, .reads ?_⟩
          rcases ho' with rfl | rfl
          · exact .inl (by simp only [renL, ren, m1])
          · exact .inr (by simp only [renL, ren, m1])
        · rw [m1]; exact ⟨_, hj, .mapo _ _ _⟩)
      (fun i i' oc oc' hi hi' hii _ => by
        rcases look01 i oc hi with ⟨rfl, rfl⟩ | ⟨rfl, rfl⟩ <;> rcases look01 i' oc' hi' with ⟨rfl, rfl⟩ | ⟨rfl, rfl⟩
        · exact absurd rfl hii
        · rw [m0, m1]; exact hne
        · rw [m0, m1]; exact fun e => hne e.symm
        · exact absurd rfl hii)
      (fun i oc hi hown => by
        rcases look01 i oc hi with ⟨rfl, rfl⟩ | ⟨rfl, rfl⟩
        · cases hown
        · exact ⟨_, rfl, .inl rfl⟩)
    have e1 : denL ρ (renL m (.ptr 0 0 :: rest)) = denL ρ (.ptr id 0 :: rest) := by
      simp only [renL, ren, m0, renr rest hrest]
    rw [e1] at this
    have e2 : ren (mr m 2 lo) (e y.1) = e y.1 := ren_lt0 _ _ hy1
    have e3 : updGo (mr m 2 lo) (hcT y.2) (hcT y.2) = [(j, .mapo ksF vsF y.2)] := by
      show (mr m 2 lo 1, renO (mr m 2 lo) (.mapo ksF vsF y.2)) :: [] = _
      rw [show mr m 2 lo 1 = m 1 from rfl, m1]
      rfl
    rw [e2, e3] at this
    exact this
  · cases hr
theorem made_same {B : Nat → Prop} {ρ ρ' : Rho} {h : Hp} {w w' : World} {lo hi j : Nat} {s : SV} {v : Value} {o : AObj} (hj : look h j = some o) (m : Made B ρ h w lo hi ⟨s, [(j, o)]⟩ ρ' v w') : Made B ρ h w lo hi ⟨s, []⟩ ρ' v w' := by
  have lk : ∀ i, look (puts h [(j, o)]) i = look h i := fun i => by
    simp only [puts, look_put]
    split
    · rename_i e; subst e; exact hj.symm
    · rfl
  refine ⟨m.val, m.rho, ⟨fun i x hx => m.hr.ok i x (by rw [lk]; exact hx), fun i x hx => m.hr.inB i x (by rw [lk]; exact hx), fun i x hx => m.hr.arg i x (by rw [lk]; exact hx), fun i j x y hx hy => m.hr.inj i j x y (by rw [lk]; exact hx) (by rw [lk]; exact hy)⟩, m.ks⟩
theorem cTabR_ok {f : FuncId} {X : Type} {e : X → SV} {V : List SV → List (KF × VF) → Option X} (B : Nat → Prop) (hW : ConOk Try.prog B f (cTab e (fun rest l => (V rest l).map fun x => (x, l)))) : ConOk Try.prog B f (cTabR e V) := by
  intro args ρ h w lo out ids hr hrh hfr hfa up
  unfold cTabR at hr
  split at hr
  · rename_i id rest
    obtain ⟨hrest, hr⟩ := cond_run hr
    obtain ⟨j, l, ids', o, ho, ho', hj, hr⟩ := tabR_run hr
    obtain ⟨y, hy, hr⟩ := opt_run hr
    cases hr
    have hrun : ∃ ids2, (cTab e (fun rest l => (V rest l).map fun x => (x, l)) (.ptr id 0 :: rest) lo).run h = some (⟨e y, [(j, .mapo ksF vsF l)]⟩, ids2) := by
      unfold cTab
      simp only [hrest, cond_true]
      unfold tabR
      simp only [Rd.run, ho]
      have hmap : ∃ ids3, (mapR j fun l => Rd.opt ((V rest l).map fun x => (x, l)) fun y => Rd.ret (⟨e y.1, [(j, .mapo ksF vsF y.2)]⟩ : Out)).run h = some (⟨e y, [(j, .mapo ksF vsF l)]⟩, ids3) := by
        unfold mapR
        simp only [Rd.run, hj]
        have hc : castM ksF vsF l = some l := rfl
        rw [hc]
        simp only [Rd.run, hy, Option.map_some]
        exact ⟨_, rfl⟩
      obtain ⟨ids3, h3⟩ := hmap
      rcases ho' with rfl | rfl
      · simp only [h3, Option.map_some]; exact ⟨_, rfl⟩
      · simp only [h3, Option.map_some]; exact ⟨_, rfl⟩
    obtain ⟨ids2, h2⟩ := hrun
    have := hW _ ρ h w lo _ _ h2 hrh hfr hfa up
    rcases this with ⟨h1, h3⟩ | h1
    · exact .inl ⟨h1, h3.mono fun x w' ⟨v, hv, ρ', m⟩ => ⟨v, hv, ρ', made_same hj m⟩⟩
    · obtain ⟨v, w', h3, ρ', m⟩ := h1
      exact .inr ⟨v, w', h3, ρ', made_same hj m⟩
  · cases hr
end Go.Proofs.Ytogmjkmnknaieaa.Ax
namespace Go.Proofs.Ytogmjkmnknaieaa.Ax
open Go Go.RowKit Go.Proofs.Ytogmjkmnknaieaa.Print
set_option linter.unusedVariables false
set_option linter.unusedSimpArgs false
noncomputable def CF0 : FuncId → Option Con
  | 17 => some cNamed
  | 18 => some cGood
  | 31 => some cOfC
  | 22 => some cMulDiv
  | 16 => some (autoP false C0 Try.f16)
  | 19 => some (autoP false C0 Try.f19)
  | _ => none
theorem CF0_ok : ∀ B' g φ, CF0 g = some φ → ConOk Try.prog B' g φ := by
  intro B' g φ h
  unfold CF0 at h
  split at h <;> first | (cases h; done) | skip
  · cases h; exact cNamed_ok B'
  · cases h; exact cGood_ok B'
  · cases h; exact cOfC_ok B'
  · cases h; exact cMulDiv_ok B'
  · cases h; exact autoP_ok false C0_ok Try.func16 (by kernel_rfl) (by kernel_rfl) B'
  · cases h; exact autoP_ok false C0_ok Try.func19 (by kernel_rfl) (by kernel_rfl) B'
noncomputable def CF1 : FuncId → Option Con
  | 21 => some (autoP true CF0 Try.f21)
  | 23 => some (autoP true CF0 Try.f23)
  | g => CF0 g
theorem CF1_ok : ∀ B' g φ, CF1 g = some φ → ConOk Try.prog B' g φ := by
  intro B' g φ h
  unfold CF1 at h
  split at h
  · cases h; exact autoP_ok true CF0_ok Try.func21 (by kernel_rfl) (by kernel_rfl) B'
  · cases h; exact autoP_ok true CF0_ok Try.func23 (by kernel_rfl) (by kernel_rfl) B'
  · exact CF0_ok B' _ φ h
noncomputable def CF2 : FuncId → Option Con
  | 20 => some (autoP true CF1 Try.f20)
  | g => CF1 g
theorem CF2_ok : ∀ B' g φ, CF2 g = some φ → ConOk Try.prog B' g φ := by
  intro B' g φ h
  unfold CF2 at h
  split at h
  · cases h; exact autoP_ok true CF1_ok Try.func20 (by kernel_rfl) (by kernel_rfl) B'
  · exact CF1_ok B' _ φ h
noncomputable abbrev mOkF (k : KF) (l : List (KF × VF)) : Bool := mOk Try.prog 54 ksF vsF k l
noncomputable abbrev mFindF (k : KF) (l : List (KF × VF)) : Option VF := mFind Try.prog 54 ksF vsF k l
def iI (x : Int) : SV := .v (.int .i64 x)
def i2 (x : Int × Int) : SV := .tup [.v (.int .i64 x.1), .v (.int .i64 x.2)]
def i3 (x : Int × Int × Int) : SV := .tup [.v (.int .i64 x.1), .v (.int .i64 x.2.1), .v (.int .i64 x.2.2)]
def toT {X : Type} (e : X → SV) (y : Option (X × List (KF × VF))) : Option (SV × Hp) := match y with
  | some z => some (e z.1, hcT z.2)
  | none => none
def lenF (rest : List SV) (l : List (KF × VF)) : Option Int := match rest with
  | [] => some (l.length : Int)
  | _ :: _ => none
theorem lenF_tree (l : List (KF × VF)) : tabEv CF0 Try.f13 [] l = some (iI (l.length : Int), hcT l) := by kernel_rfl
noncomputable def setV (x : KF) (n d : Int) (l : List (KF × VF)) : Option (Int × List (KF × VF)) :=
  sel (!namedV x.1) (some (40, l)) (sel (!goodB x.2.1 x.2.2.1 x.2.2.2) (some (2, l)) (sel (x.2.1 != 2) (some (2, l)) (sel (decide (1 ≤ n)) (sel (!decide (n ≤ 1099511627776)) (some (2, l))
    (sel (decide (1 ≤ d)) (sel (!decide (d ≤ 1099511627776)) (some (2, l)) (sel (mOkF x l) (sel (mFindF x l).isSome (some (50, l)) (sel (mOkF x l && (mFindF x l).isNone) (some (0, l ++ [(x, (n, d))])) none)) none)) (some (2, l)))) (some (2, l)))))
theorem set_tree (s : ByteArray) (k y i n d : Int) (l : List (KF × VF)) : tabEv CF0 Try.f8 [.v (.string s), .agg [.v (.int .i64 k), .v (.int .i64 y), .v (.int .i64 i)], .v (.int .i64 n), .v (.int .i64 d)] l =
    sel (!namedV s) (toT iI (some (40, l))) (sel (!goodB k y i) (toT iI (some (2, l))) (sel (k != 2) (toT iI (some (2, l))) (sel (decide (1 ≤ n)) (sel (!decide (n ≤ 1099511627776)) (toT iI (some (2, l)))
    (sel (decide (1 ≤ d)) (sel (!decide (d ≤ 1099511627776)) (toT iI (some (2, l))) (sel (mOkF (s, k, y, i) l) (sel (mFindF (s, k, y, i) l).isSome (toT iI (some (50, l))) (sel (mOkF (s, k, y, i) l && (mFindF (s, k, y, i) l).isNone) (toT iI (some (0, l ++ [((s, k, y, i), (n, d))]))) none)) none)) (toT iI (some (2, l))))) (toT iI (some (2, l)))))) := by kernel_rfl
noncomputable def rateV (s : ByteArray) (d : Int) (l : List (KF × VF)) : Option (Int × Int × Int) :=
  sel (s.toList == ([] : List UInt8)) (some (1, 1, 0)) (sel (!namedV s) (some (0, 0, 40)) (sel ((ofV d 2).2.2.2 != 0) (some (0, 0, (ofV d 2).2.2.2))
    (sel (mOkF (s, (ofV d 2).1, (ofV d 2).2.1, (ofV d 2).2.2.1) l) (sel (!(mFindF (s, (ofV d 2).1, (ofV d 2).2.1, (ofV d 2).2.2.1) l).isSome) (some (0, 0, 61))
      (some (((mFindF (s, (ofV d 2).1, (ofV d 2).2.1, (ofV d 2).2.2.1) l).getD (0, 0)).1, ((mFindF (s, (ofV d 2).1, (ofV d 2).2.1, (ofV d 2).2.2.1) l).getD (0, 0)).2, 0))) none)))
abbrev tR (x : Int × Int × Int) (l : List (KF × VF)) : Option (SV × Hp) := some (i3 x, hcT l)
theorem rate_tree (s : ByteArray) (d : Int) (l : List (KF × VF)) : tabEv CF2 Try.f10 [.v (.string s), .v (.int .i64 d)] l =
    sel (s.toList == ([] : List UInt8)) (tR (1, 1, 0) l) (sel (!namedV s) (tR (0, 0, 40) l) (sel ((ofV d 2).2.2.2 != 0) (tR (0, 0, (ofV d 2).2.2.2) l)
    (sel (mOkF (s, (ofV d 2).1, (ofV d 2).2.1, (ofV d 2).2.2.1) l) (sel (!(mFindF (s, (ofV d 2).1, (ofV d 2).2.1, (ofV d 2).2.2.1) l).isSome) (tR (0, 0, 61) l)
      (tR (((mFindF (s, (ofV d 2).1, (ofV d 2).2.1, (ofV d 2).2.2.1) l).getD (0, 0)).1, ((mFindF (s, (ofV d 2).1, (ofV d 2).2.1, (ofV d 2).2.2.1) l).getD (0, 0)).2, 0) l)) none))) := by kernel_rfl
noncomputable def convV (s : ByteArray) (d a : Int) (l : List (KF × VF)) : Option (Int × Int) :=
  sel (s.toList == ([] : List UInt8)) (some (mulDivV a 1 1)) (sel (!namedV s) (some (0, 40)) (sel ((ofV d 2).2.2.2 != 0) (some (0, (ofV d 2).2.2.2))
    (sel (mOkF (s, (ofV d 2).1, (ofV d 2).2.1, (ofV d 2).2.2.1) l) (sel (!(mFindF (s, (ofV d 2).1, (ofV d 2).2.1, (ofV d 2).2.2.1) l).isSome) (some (0, 61))
      (some (mulDivV a ((mFindF (s, (ofV d 2).1, (ofV d 2).2.1, (ofV d 2).2.2.1) l).getD (0, 0)).1 ((mFindF (s, (ofV d 2).1, (ofV d 2).2.1, (ofV d 2).2.2.1) l).getD (0, 0)).2))) none)))
abbrev tC (x : Int × Int) (l : List (KF × VF)) : Option (SV × Hp) := some (i2 x, hcT l)
theorem conv_tree (s : ByteArray) (d a : Int) (l : List (KF × VF)) : tabEv CF2 Try.f9 [.v (.string s), .v (.int .i64 d), .v (.int .i64 a)] l =
    sel (s.toList == ([] : List UInt8)) (tC (mulDivV a 1 1) l) (sel (!namedV s) (tC (0, 40) l) (sel ((ofV d 2).2.2.2 != 0) (tC (0, (ofV d 2).2.2.2) l)
    (sel (mOkF (s, (ofV d 2).1, (ofV d 2).2.1, (ofV d 2).2.2.1) l) (sel (!(mFindF (s, (ofV d 2).1, (ofV d 2).2.1, (ofV d 2).2.2.1) l).isSome) (tC (0, 61) l)
      (tC (mulDivV a ((mFindF (s, (ofV d 2).1, (ofV d 2).2.1, (ofV d 2).2.2.1) l).getD (0, 0)).1 ((mFindF (s, (ofV d 2).1, (ofV d 2).2.1, (ofV d 2).2.2.1) l).getD (0, 0)).2) l)) none))) := by kernel_rfl
noncomputable def setQ (rest : List SV) (l : List (KF × VF)) : Option (Int × List (KF × VF)) := match rest with
  | [.v (.string s), .agg [.v (.int .i64 k), .v (.int .i64 y), .v (.int .i64 i)], .v (.int .i64 n), .v (.int .i64 d)] => setV (s, k, y, i) n d l
  | _ => none
noncomputable def rateQ (rest : List SV) (l : List (KF × VF)) : Option (Int × Int × Int) := match rest with
  | [.v (.string s), .v (.int .i64 d)] => rateV s d l
  | _ => none
noncomputable def convQ (rest : List SV) (l : List (KF × VF)) : Option (Int × Int) := match rest with
  | [.v (.string s), .v (.int .i64 d), .v (.int .i64 a)] => convV s d a l
  | _ => none
theorem selS {α β : Type} {f : α → β} {b : Bool} {x y : Option α} {z : α} (h : sel b x y = some z) {X Y : Option β} (hx : x = some z → X = some (f z)) (hy : y = some z → Y = some (f z)) : sel b X Y = some (f z) := by
  cases b with
  | true => exact hx h
  | false => exact hy h
noncomputable def cSetT : Con := cTab iI setQ
noncomputable def cRateT : Con := cTabR i3 rateQ
noncomputable def cConvT : Con := cTabR i2 convQ
noncomputable def cLenT : Con := cTabR iI lenF
theorem cSetT_ok (B) : ConOk Try.prog B 8 cSetT := by
  refine cTab_ok CF0_ok Try.func8 (by kernel_rfl) rfl (fun x => rfl) (fun rest l y h => ?_) B
  unfold setQ at h
  split at h
  · rename_i s k yy i n d
    rw [set_tree s k yy i n d l]
    unfold setV at h
    refine selS (f := fun y => (iI y.1, hcT y.2)) h (fun h => by cases h; rfl) fun h => ?_
    refine selS (f := fun y => (iI y.1, hcT y.2)) h (fun h => by cases h; rfl) fun h => ?_
    refine selS (f := fun y => (iI y.1, hcT y.2)) h (fun h => by cases h; rfl) fun h => ?_
    refine selS (f := fun y => (iI y.1, hcT y.2)) h (fun h => ?_) (fun h => by cases h; rfl)
    refine selS (f := fun y => (iI y.1, hcT y.2)) h (fun h => by cases h; rfl) fun h => ?_
    refine selS (f := fun y => (iI y.1, hcT y.2)) h (fun h => ?_) (fun h => by cases h; rfl)
    refine selS (f := fun y => (iI y.1, hcT y.2)) h (fun h => by cases h; rfl) fun h => ?_
    refine selS (f := fun y => (iI y.1, hcT y.2)) h (fun h => ?_) (fun h => by cases h)
    refine selS (f := fun y => (iI y.1, hcT y.2)) h (fun h => by cases h; rfl) fun h => ?_
    exact selS (f := fun y => (iI y.1, hcT y.2)) h (fun h => by cases h; rfl) (fun h => by cases h)
  · cases h
theorem cRateT_ok (B) : ConOk Try.prog B 10 cRateT := by
  refine cTabR_ok B (cTab_ok CF2_ok Try.func10 (by kernel_rfl) rfl (fun x => rfl) (fun rest l y h => ?_) B)
  obtain ⟨x, hq, rfl⟩ := Option.map_eq_some_iff.1 h
  clear h
  have h := hq
  clear hq
  unfold rateQ at h
  split at h
  · rename_i s d
    rw [rate_tree s d l]
    unfold rateV at h
    refine selS (f := fun y => (i3 y, hcT l)) h (fun h => by cases h; rfl) fun h => ?_
    refine selS (f := fun y => (i3 y, hcT l)) h (fun h => by cases h; rfl) fun h => ?_
    refine selS (f := fun y => (i3 y, hcT l)) h (fun h => by cases h; rfl) fun h => ?_
    refine selS (f := fun y => (i3 y, hcT l)) h (fun h => ?_) (fun h => by cases h)
    exact selS (f := fun y => (i3 y, hcT l)) h (fun h => by cases h; rfl) (fun h => by cases h; rfl)
  · cases h
theorem cConvT_ok (B) : ConOk Try.prog B 9 cConvT := by
  refine cTabR_ok B (cTab_ok CF2_ok Try.func9 (by kernel_rfl) rfl (fun x => rfl) (fun rest l y h => ?_) B)
  obtain ⟨x, hq, rfl⟩ := Option.map_eq_some_iff.1 h
  clear h
  have h := hq
  clear hq
  unfold convQ at h
  split at h
  · rename_i s d a
    rw [conv_tree s d a l]
    unfold convV at h
    refine selS (f := fun y => (i2 y, hcT l)) h (fun h => by cases h; rfl) fun h => ?_
    refine selS (f := fun y => (i2 y, hcT l)) h (fun h => by cases h; rfl) fun h => ?_
    refine selS (f := fun y => (i2 y, hcT l)) h (fun h => by cases h; rfl) fun h => ?_
    refine selS (f := fun y => (i2 y, hcT l)) h (fun h => ?_) (fun h => by cases h)
    exact selS (f := fun y => (i2 y, hcT l)) h (fun h => by cases h; rfl) (fun h => by cases h; rfl)
  · cases h
theorem cLenT_ok (B) : ConOk Try.prog B 13 cLenT := by
  refine cTabR_ok B (cTab_ok CF0_ok Try.func13 (by kernel_rfl) rfl (fun x => rfl) (fun rest l y h => ?_) B)
  obtain ⟨x, hq, rfl⟩ := Option.map_eq_some_iff.1 h
  clear h
  have h := hq
  clear hq
  unfold lenF at h
  split at h
  · cases h; exact lenF_tree l
  · cases h
end Go.Proofs.Ytogmjkmnknaieaa.Ax
namespace Go.Proofs.Ytogmjkmnknaieaa.Ax
open Go Go.RowKit Go.Proofs.Ytogmjkmnknaieaa.Print
set_option linter.unusedVariables false
set_option linter.unusedSimpArgs false
abbrev qInt : Pc := .one (.int .i64)
abbrev qBool : Pc := .one .bool
abbrev stR : List Sc := [.str, .int .i64, .int .i64, .int .i64, .int .i64, .int .i64]
abbrev RF := ByteArray × Int × Int × Int × Int × Int
abbrev yesT : Option (Bool × Unit) := some (true, ())
noncomputable def CL : FuncId → Option Con
  | 7 => some (autoP true C0 Try.f7)
  | 8 => some cSetT
  | 10 => some cRateT
  | 9 => some cConvT
  | 13 => some cLenT
  | _ => none
theorem CL_ok : ∀ B' g φ, CL g = some φ → ConOk Try.prog B' g φ := by
  intro B' g φ h
  unfold CL at h
  split at h <;> first | (cases h; done) | skip
  · cases h; exact autoP_ok true C0_ok Try.func7 (by kernel_rfl) (by kernel_rfl) B'
  · cases h; exact cSetT_ok B'
  · cases h; exact cRateT_ok B'
  · cases h; exact cConvT_ok B'
  · cases h; exact cLenT_ok B'
theorem lives_ev : evX Try.prog CL cn0 40 Try.f6 [] [qBool] () = yesT := by kernel_rfl
noncomputable def cLives : Con := conX [] [qBool] (fun _ => yesT)
theorem cLives_ok (B) : ConOk Try.prog B 6 cLives :=
  toldP CL_ok Try.func6 (by kernel_rfl) (by kernel_rfl) _ (fun x y h => by cases h; exact lives_ev) (by decide) B
noncomputable def CN : FuncId → Option Con
  | 6 => some cLives
  | 8 => some (autoP false CF0 Try.f8)
  | 10 => some (autoP false CF2 Try.f10)
  | 9 => some (autoP false CF2 Try.f9)
  | 13 => some (autoP false CF0 Try.f13)
  | 14 => some (autoP false CF0 Try.f14)
  | _ => none
theorem CN_ok : ∀ B' g φ, CN g = some φ → ConOk Try.prog B' g φ := by
  intro B' g φ h
  unfold CN at h
  split at h <;> first | (cases h; done) | skip
  · cases h; exact cLives_ok B'
  · cases h; exact autoP_ok false CF0_ok Try.func8 (by kernel_rfl) (by kernel_rfl) B'
  · cases h; exact autoP_ok false CF2_ok Try.func10 (by kernel_rfl) (by kernel_rfl) B'
  · cases h; exact autoP_ok false CF2_ok Try.func9 (by kernel_rfl) (by kernel_rfl) B'
  · cases h; exact autoP_ok false CF0_ok Try.func13 (by kernel_rfl) (by kernel_rfl) B'
  · cases h; exact autoP_ok false CF0_ok Try.func14 (by kernel_rfl) (by kernel_rfl) B'
theorem nobody_tree (x : RF) (d a : Int) : evX Try.prog CN cn0 40 Try.f5 [.agg stR, qInt, qInt] [qBool] (x, d, a, ()) = sel (decide ((100 : Int) < (x.1.size : Int))) yesT yesT := by kernel_rfl
theorem nobody_ev (x : RF) (d a : Int) : evX Try.prog CN cn0 40 Try.f5 [.agg stR, qInt, qInt] [qBool] (x, d, a, ()) = yesT := by
  rw [nobody_tree]
  cases decide ((100 : Int) < (x.1.size : Int)) <;> rfl
end Go.Proofs.Ytogmjkmnknaieaa.Ax
namespace Go.Proofs.Ytogmjkmnknaieaa.Print
open Go Go.RowKit Go.Proofs.YtogmjkmnknaieaaW.PrintWords Go.Proofs.Ytogmjkmnknaieaa.Ax
set_option linter.unusedVariables false
theorem no_names {lin : List Pc} {x : PT lin} {ρ : Rho} {w : World} (h : hcA lin x 0 = []) : InOk w 0 (cntP lin 0) (hcA lin x 0) ρ := by
  intro j o hj
  rw [h] at hj; cases hj
def octroilaw16_FxNobody.f (s : ByteArray) (k y i n d : Int) (day amount : Int) : Option Bool := some true
theorem octroilaw16_FxNobody.calls (s : ByteArray) (k y i n d : Int) (day amount : Int) (r : Bool) (w : World) (h : octroilaw16_FxNobody.f s k y i n d day amount = some r) :
    Calls Try.prog 5 #[.agg #[.string s, .int .i64 k, .int .i64 y, .int .i64 i, .int .i64 n, .int .i64 d], .int .i64 day, .int .i64 amount] w fun e w' => e = .returned (.bool r) ∧ Below w.heap.size w w' := by
  obtain rfl : true = r := Option.some.inj h
  exact calls_of_X mixed Try.func5 CN_ok (fun B' w => cn0_ok B' w _) (nobody_ev (s, k, y, i, n, d) day amount) (fun _ => ⟨0, 0, 0, 0, true, none⟩) w (no_names rfl)
end Go.Proofs.Ytogmjkmnknaieaa.Print
namespace Go.Proofs.Ytogmjkmnknaieaa.Print
open Go.RowKit Go.Proofs.YtogmjkmnknaieaaW.PrintWords Go.Proofs.YtogmjkmnknaieaaW.PrintLast
def octroilaw16_FxNobody.Pure : Prop := ∀ (a0_0 : ByteArray) (a0_1 : Int) (a0_2 : Int) (a0_3 : Int) (a0_4 : Int) (a0_5 : Int) (a1 : Int) (a2 : Int), a0_0.size ≤ maxLen → (Lit.int .i64 a0_1).wf = true → (Lit.int .i64 a0_2).wf = true → (Lit.int .i64 a0_3).wf = true → (Lit.int .i64 a0_4).wf = true → (Lit.int .i64 a0_5).wf = true → (Lit.int .i64 a1).wf = true → (Lit.int .i64 a2).wf = true → octroilaw16_FxNobody.f a0_0 a0_1 a0_2 a0_3 a0_4 a0_5 a1 a2 = some true
end Go.Proofs.Ytogmjkmnknaieaa.Print
namespace Go.Proofs.Ytogmjkmnknaieaa.Pure
open Go.RowKit Go.Proofs.Ytogmjkmnknaieaa.Print
theorem FxNobody : octroilaw16_FxNobody.Pure := by
  unfold octroilaw16_FxNobody.Pure
  intros; rfl
end Go.Proofs.Ytogmjkmnknaieaa.Pure
namespace Go.Proofs.Ytogmjkmnknaieaa.Ax
open Go Go.RowKit
set_option linter.unusedVariables false
set_option linter.unusedSimpArgs false
def takeRow (ty : TypeId) (s : List Sc) (v : SV) (h : Hp) : Option (List (TT s) × Hp) := match v with
  | .v (.slice none 0 0) => some ([], h)
  | .all k => match look h k with
    | some (.row ty' s' l) => cond (Nat.beq ty ty') (match castL s' s l with
      | none => none
      | some l' => some (l', put h k .dead)) none
    | _ => none
  | .slc k n 0 m (some c) => cond (Nat.beq n s.length && Nat.beq m c) (match look h k with
    | some (.cells ty' cs) => cond (Nat.beq ty ty') (match decRows s n m cs with
      | none => none
      | some l' => some (l', put h k .dead)) none
    | _ => none) none
  | _ => none
def rowCell (id j : Nat) (ty : TypeId) (s : List Sc) (σ : St) : Option St := match look σ.hp id with
  | some (.cells t c) => match c[j]? with
    | some v => match takeRow ty s v σ.hp with
      | some (l, h') => match look h' id with
        | some (.cells t' c') => match Nat.beq t t' && Nat.blt id σ.nx with
          | true => some ⟨σ.sl, put (put h' σ.nx (.row ty s l)) id (.cells t (c.set j (.all σ.nx))), σ.nx + 1⟩
          | false => none
        | _ => none
      | none => none
    | none => none
  | _ => none
def rowRes (j : Nat) (ty : TypeId) (s : List Sc) (σ : St) : Option St := match look σ.sl 0 with
  | some (.tup c) => match c[j]? with
    | some v => match takeRow ty s v σ.hp with
      | some (l, h') => some ⟨put σ.sl 0 (.tup (c.set j (.all σ.nx))), put h' σ.nx (.row ty s l), σ.nx + 1⟩
      | none => none
    | none => none
  | some v => match takeRow ty s v σ.hp with
    | some (l, h') => some ⟨put σ.sl 0 (.all σ.nx), put h' σ.nx (.row ty s l), σ.nx + 1⟩
    | none => none
  | none => none
def dropNm (id : Nat) (σ : St) : Option St := match look σ.hp id with
  | some _ => some ⟨σ.sl, put σ.hp id .dead, σ.nx⟩
  | none => none
inductive Rw where
  | drop (id : Nat)
  | cell (id j : Nat) (ty : TypeId) (s : List Sc)
  | res (j : Nat) (ty : TypeId) (s : List Sc)
def rows : List Rw → St → Option St
  | [], σ => some σ
  | .drop id :: l, σ => match dropNm id σ with
    | none => none
    | some σ' => rows l σ'
  | .cell id j ty s :: l, σ => match rowCell id j ty s σ with
    | none => none
    | some σ' => rows l σ'
  | .res j ty s :: l, σ => match rowRes j ty s σ with
    | none => none
    | some σ' => rows l σ'
section
variable {P : Program} {C : FuncId → Option Con} {cn : Nat → St → Option St}
end
end Go.Proofs.Ytogmjkmnknaieaa.Ax
