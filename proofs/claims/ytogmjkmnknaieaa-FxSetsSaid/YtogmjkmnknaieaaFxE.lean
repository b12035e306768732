/- A table of rates: plain laws; the law FxOwn. -/
import Derived.Test.YtogmjkmnknaieaaAx21
import Derived.Test.YtogmjkmnknaieaaWideA
import Derived.Test.YtogmjkmnknaieaaWideD
import Derived.Test.YtogmjkmnknaieaaRefMD
import Derived.Test.YtogmjkmnknaieaaRef04D
import Derived.Test.YtogmjkmnknaieaaFxNamed
import Derived.Test.YtogmjkmnknaieaaX0
import Derived.Test.YtogmjkmnknaieaaAx14
import Derived.Test.YtogmjkmnknaieaaAx20
import Derived.Test.YtogmjkmnknaieaaAx22
import Derived.Test.YtogmjkmnknaieaaAx4
import Derived.Test.YtogmjkmnknaieaaAx8
import Derived.Test.YtogmjkmnknaieaaX2
import Derived.Test.YtogmjkmnknaieaaX4
namespace Go.Proofs.Ytogmjkmnknaieaa.Ax
open Go Go.RowKit Go.Proofs.Ytogmjkmnknaieaa.Print
set_option linter.unusedVariables false
set_option linter.unusedSimpArgs false
noncomputable abbrev autoP (own : Bool) (C : FuncId → Option Con) (fn : Func) : Con := conAuto Try.prog C cn0 40 own fn
theorem autoP_ok {f : FuncId} {fn : Func} (own : Bool) {C : FuncId → Option Con} (hC : ∀ B' g φ, C g = some φ → ConOk Try.prog B' g φ) (hf : Try.prog.funcs[f]? = some fn) (hname : (fn.name == "runtime.NumGoroutine") = false) (hbody : fn.body.isSome = true) (B : Nat → Prop) : ConOk Try.prog B f (autoP own C fn) :=
  conAuto_ok mixed hf hname hbody hC (fun B' w0 => cn0_ok B' w0 _) own B
theorem toldP {f : FuncId} {fn : Func} {C : FuncId → Option Con} (hC : ∀ B' g φ, C g = some φ → ConOk Try.prog B' g φ) (hf : Try.prog.funcs[f]? = some fn) (hname : (fn.name == "runtime.NumGoroutine") = false) (hbody : fn.body.isSome = true) {lin lout : List Pc} (V : PT lin → Option (PT lout))
    (hV : ∀ x y, V x = some y → evX Try.prog C cn0 40 fn lin lout x = some y) (h1 : rowsP lout ≤ 1) (B : Nat → Prop) : ConOk Try.prog B f (conX lin lout V) :=
  conX_ok mixed hf hname hbody hC (fun B' w => cn0_ok B' w _) lin lout h1 (fun _ => 40) V hV B
def cGood : Con := fun args _ => match args with
  | [.agg [.v (.int .i64 k), .v (.int .i64 y), .v (.int .i64 i)]] => .ret ⟨.v (.bool (goodB k y i)), []⟩
  | _ => .fail
theorem cGood_ok : ∀ B, ConOk Try.prog B 18 cGood := by
  intro B args ρ h w lo out ids hr hrh hfr hfa up
  unfold cGood at hr
  split at hr
  · rename_i k y i
    cases hr
    exact gives_same (s := .v (.bool (goodB k y i))) (fn := Try.f18) Try.func18 (by kernel_rfl) (by kernel_rfl) hrh up (civil_Good.calls k y i _ w (pro_good k y i))
  · cases hr
def cOfC : Con := fun args _ => match args with
  | [.v (.int .i64 n), .v (.int .i64 kd)] => .ret ⟨.tup [.agg [.v (.int .i64 (ofV n kd).1), .v (.int .i64 (ofV n kd).2.1), .v (.int .i64 (ofV n kd).2.2.1)], .v (.int .i64 (ofV n kd).2.2.2)], []⟩
  | _ => .fail
theorem cOfC_ok : ∀ B, ConOk Try.prog B 31 cOfC := by
  intro B args ρ h w lo out ids hr hrh hfr hfa up
  unfold cOfC at hr
  split at hr
  · rename_i n kd
    cases hr
    exact gives_same (s := .tup [.agg [.v (.int .i64 (ofV n kd).1), .v (.int .i64 (ofV n kd).2.1), .v (.int .i64 (ofV n kd).2.2.1)], .v (.int .i64 (ofV n kd).2.2.2)]) (fn := Try.f31) Try.func31 (by kernel_rfl) (by kernel_rfl) hrh up (civil_Of.calls n kd _ _ _ _ w (pro_of n kd))
  · cases hr
theorem cRGood_ok : ∀ B, ConOk Try.prog B 28 cGood := by
  intro B args ρ h w lo out ids hr hrh hfr hfa up
  unfold cGood at hr
  split at hr
  · rename_i k y i
    cases hr
    exact gives_same (s := .v (.bool (goodB k y i))) (fn := Try.f28) Try.func28 (by kernel_rfl) (by kernel_rfl) hrh up (octroiref04_Good.calls k y i _ w (ref_good k y i))
  · cases hr
theorem cROf_ok : ∀ B, ConOk Try.prog B 25 cOfC := by
  intro B args ρ h w lo out ids hr hrh hfr hfa up
  unfold cOfC at hr
  split at hr
  · rename_i n kd
    cases hr
    obtain ⟨K, hK⟩ := ref_of n kd
    exact gives_same (s := .tup [.agg [.v (.int .i64 (ofV n kd).1), .v (.int .i64 (ofV n kd).2.1), .v (.int .i64 (ofV n kd).2.2.1)], .v (.int .i64 (ofV n kd).2.2.2)]) (fn := Try.f25) Try.func25 (by kernel_rfl) (by kernel_rfl) hrh up (octroiref04_Of.calls K n kd _ _ _ _ w (hK K (Nat.le_refl _)))
  · cases hr
def cNamed : Con := fun args _ => match args with
  | [.v (.string s)] => .ret ⟨.v (.bool (namedV s)), []⟩
  | _ => .fail
theorem cNamed_ok (B) : ConOk Try.prog B 17 cNamed := by
  intro args ρ h w lo out ids hr hrh hfr hfa up
  unfold cNamed at hr
  split at hr
  · rename_i s
    cases hr
    exact gives_same (s := .v (.bool (namedV s))) (fn := Try.f17) Try.func17 (by kernel_rfl) (by kernel_rfl) hrh up (named_any s w)
  · cases hr
theorem bt_byte (s : ByteArray) (j : Nat) (h : j < s.size) : Go.Proofs.YtogmjkmnknaieaaW.PrintWords.bt s (j : Int) = byteI s j := by
  unfold Go.Proofs.YtogmjkmnknaieaaW.PrintWords.bt byteI
  rw [Int.toNat_natCast, dif_pos h]
  have h' : j < s.data.size := h
  congr 1
  show (s.data[j]'h').toNat = _
  simp [List.getD, Array.getElem?_eq_getElem h']
theorem ref_letter (b : Int) : octroiref07_Letter.f b = some (capB b) := by
  unfold octroiref07_Letter.f capB
  by_cases h : b ≥ 65
  · rw [if_pos h, decide_eq_true (show (65 : Int) ≤ b from h)]; rfl
  · rw [if_neg h, decide_eq_false (show ¬ (65 : Int) ≤ b from h)]; rfl
theorem ref_curr (s : ByteArray) : octroiref08_Currency.f s = some (namedV s) := by
  unfold octroiref08_Currency.f namedV
  by_cases h : s.size = 3
  · have e : (s.size : Int) = 3 := by omega
    have b0 := bt_byte s 0 (by omega)
    have b1 := bt_byte s 1 (by omega)
    have b2 := bt_byte s 2 (by omega)
    simp only [Int.ofNat_eq_natCast, Int.natCast_zero, Int.natCast_one] at b0 b1 b2
    rw [if_pos e, if_pos (by omega), show (0 : Int) = ((0 : Nat) : Int) from rfl, bt_byte s 0 (by omega), ref_letter, show (s.size == 3) = true from by simpa using h]
    simp only [Option.bind_some, Bool.true_and]
    cases capB (byteI s 0) with
    | false => rfl
    | true =>
      rw [if_pos rfl, if_pos (by omega), show (1 : Int) = ((1 : Nat) : Int) from rfl, bt_byte s 1 (by omega), ref_letter]
      simp only [Option.bind_some, Bool.true_and]
      cases capB (byteI s 1) with
      | false => rfl
      | true =>
        rw [if_pos rfl, if_pos (by omega), show (2 : Int) = ((2 : Nat) : Int) from rfl, bt_byte s 2 (by omega), ref_letter]
        simp only [Option.bind_some, Bool.true_and]
  · rw [if_neg (by omega), show (s.size == 3) = false from by simpa using h]; rfl
theorem cCurr_ok (B) : ConOk Try.prog B 24 cNamed := by
  intro args ρ h w lo out ids hr hrh hfr hfa up
  unfold cNamed at hr
  split at hr
  · rename_i s
    cases hr
    exact gives_same (s := .v (.bool (namedV s))) (fn := Try.f24) Try.func24 (by kernel_rfl) (by kernel_rfl) hrh up ((octroiref08_Currency.calls s _ w (ref_curr s)).mono fun e w' he => ⟨he.1, he.2.below⟩)
  · cases hr
theorem cRMulDiv_ok (B) : ConOk Try.prog B 27 cMulDiv := by
  intro args ρ h w lo out ids hr hrh hfr hfa up
  unfold cMulDiv at hr
  split at hr
  · rename_i a b c
    cases hr
    exact gives_same (s := .tup [.v (.int .i64 (mulDivV a b c).1), .v (.int .i64 (mulDivV a b c).2)]) (fn := Try.f27) Try.func27 (by kernel_rfl) (by kernel_rfl) hrh up (octroiref02_MulDiv.calls a b c _ _ w rfl)
  · cases hr
abbrev ksF : List Sc := [.str, .int .i64, .int .i64, .int .i64]
abbrev vsF : List Sc := [.int .i64, .int .i64]
abbrev KF := ByteArray × Int × Int × Int
abbrev VF := Int × Int
def keyEq : KF → KF → Bool
  | (a, b, c, d), (a', b', c', d') => (a == a' && ((b == b' && (c == c' && (d == d' && true))) && true))
theorem eqK_fx (x y : KF) : eqK Try.prog 54 ksF x y = some (keyEq x y) := by kernel_rfl
def castM (ks vs : List Sc) (l : List (TT ks × TT vs)) : Option (List (KF × VF)) := match h : (scEq ks ksF && scEq vs vsF) with
  | true => some ((scEq_eq (Bool.and_eq_true_iff.1 h).1 ▸ scEq_eq (Bool.and_eq_true_iff.1 h).2 ▸ l : List (TT ksF × TT vsF)))
  | false => none
theorem castM_eq {ks vs : List Sc} {l : List (TT ks × TT vs)} {l' : List (KF × VF)} (h : castM ks vs l = some l') : ∃ (e : ks = ksF) (e' : vs = vsF), (e ▸ e' ▸ l : List (TT ksF × TT vsF)) = l' := by
  unfold castM at h
  split at h
  · cases h; exact ⟨_, _, rfl⟩
  · cases h
def mapR (j : Nat) (k : List (KF × VF) → Rd Out) : Rd Out := .obj j fun o => match o with
  | .mapo ks vs l => .opt (castM ks vs l) k
  | _ => .fail
def tabR (id : Nat) (k : Nat → List (KF × VF) → Rd Out) : Rd Out := .obj id fun o => match o with
  | .cells 47 [.map j] => mapR j (k j)
  | .ro 47 [.map j] => mapR j (k j)
  | _ => .fail
theorem mapR_run {j : Nat} {k : List (KF × VF) → Rd Out} {h : Hp} {out : Out} {ids : List Nat} (hr : (mapR j k).run h = some (out, ids)) : ∃ l ids', look h j = some (.mapo ksF vsF l) ∧ (k l).run h = some (out, ids') := by
  unfold mapR at hr
  obtain ⟨o, ids1, ho, hr⟩ := obj_run hr
  split at hr
  · rename_i ks vs l
    obtain ⟨l', hl, hr⟩ := opt_run hr
    obtain ⟨rfl, rfl, rfl⟩ := castM_eq hl
    exact ⟨_, ids1, ho, hr⟩
  · cases hr
theorem tabR_run {id : Nat} {k : Nat → List (KF × VF) → Rd Out} {h : Hp} {out : Out} {ids : List Nat} (hr : (tabR id k).run h = some (out, ids)) : ∃ j l ids' o, look h id = some o ∧ (o = .cells 47 [.map j] ∨ o = .ro 47 [.map j]) ∧ look h j = some (.mapo ksF vsF l) ∧ (k j l).run h = some (out, ids') := by
  unfold tabR at hr
  obtain ⟨o, ids1, ho, hr⟩ := obj_run hr
  split at hr
  · rename_i j
    obtain ⟨l, ids2, hl, hr⟩ := mapR_run hr
    exact ⟨j, l, ids2, _, ho, .inl rfl, hl, hr⟩
  · rename_i j
    obtain ⟨l, ids2, hl, hr⟩ := mapR_run hr
    exact ⟨j, l, ids2, _, ho, .inr rfl, hl, hr⟩
  · cases hr
def cTab {X : Type} (e : X → SV) (V : List SV → List (KF × VF) → Option (X × List (KF × VF))) : Con := fun args lo => match args with
  | .ptr id 0 :: rest => cond (ltL 0 rest) (tabR id fun j l => .opt (V rest l) fun y => .ret ⟨e y.1, [(j, .mapo ksF vsF y.2)]⟩) .fail
  | _ => .fail
def cTabR {X : Type} (e : X → SV) (V : List SV → List (KF × VF) → Option X) : Con := fun args lo => match args with
  | .ptr id 0 :: rest => cond (ltL 0 rest) (tabR id fun j l => .opt (V rest l) fun y => .ret ⟨e y, []⟩) .fail
  | _ => .fail
def hcT (l : List (KF × VF)) : Hp := [(0, .ro 47 [.map 1]), (1, .mapo ksF vsF l)]
noncomputable def tabEv (C : FuncId → Option Con) (fn : Func) (rest : List SV) (l : List (KF × VF)) : Option (SV × Hp) := evFn Try.prog C cn0 40 fn (.ptr 0 0 :: rest) (hcT l) 2 (KG (gcSt [0] 2) 2)
theorem cTab_ok {f : FuncId} {fn : Func} {c0 : Code} {C : FuncId → Option Con} (hC : ∀ B' g φ, C g = some φ → ConOk Try.prog B' g φ) (hf : Try.prog.funcs[f]? = some fn) (hname : (fn.name == "runtime.NumGoroutine") = false) (hbody : fn.body = some c0)
    {X : Type} {e : X → SV} (he : ∀ x, (e x).lt 0 = true) {V : List SV → List (KF × VF) → Option (X × List (KF × VF))} (hV : ∀ rest l y, V rest l = some y → tabEv C fn rest l = some (e y.1, hcT y.2)) (B : Nat → Prop) : ConOk Try.prog B f (cTab e V) := by
  intro args ρ h w lo out ids hr hrh hfr hfa up
  unfold cTab at hr
  split at hr
  · rename_i id rest
    obtain ⟨hrest, hr⟩ := cond_run hr
    obtain ⟨j, l, ids', o, ho, ho', hj, hr⟩ := tabR_run hr
    obtain ⟨y, hy, hr⟩ := opt_run hr
    have hy1 := he y.1
    cases hr
    obtain ⟨m, hm⟩ : ∃ m : Nat → Nat, m = fun i => if i = 0 then id else if i = 1 then j else lo + wide := ⟨_, rfl⟩
    have m0 : m 0 = id := by rw [hm]; rfl
    have m1 : m 1 = j := by rw [hm]; rfl
    have hne : id ≠ j := fun e => by subst e; rw [ho] at hj; rcases ho' with h | h <;> rw [h] at hj <;> cases hj
    have look01 : ∀ i oc, look (hcT l) i = some oc → (i = 0 ∧ oc = .ro 47 [.map 1]) ∨ (i = 1 ∧ oc = .mapo ksF vsF l) := by
      intro i oc hi
      unfold hcT at hi
      simp only [look] at hi
      by_cases e0 : 0 = i
      · subst e0; cases hi; exact .inl ⟨rfl, rfl⟩
      · rw [beq_no e0] at hi
        by_cases e1 : 1 = i
        · subst e1; cases hi; exact .inr ⟨rfl, rfl⟩
        · rw [beq_no e1] at hi; cases hi
    have renr : ∀ l : List SV, ltL 0 l = true → renL m l = l := by
      intro l hl
      exact renL_lt0 m l hl
    have := con_ownG (B := B) (cn := cn0) (F := 40) mixed hf hname hbody hC (p := 2) (fun B' w0 _ => cn0_ok B' w0 _) (.ptr 0 0 :: rest) m (hcT l) (e y.1) (hcT y.2) (gc_GOk 2) (by have := hV rest l y hy; unfold tabEv at this; exact this) ρ h w lo hrh hfr up
      (by simp only [ltL, SV.lt, Bool.and_eq_true]; exact ⟨rfl, ltL_mono (Nat.zero_le _) rest hrest⟩)
      (fun i oc hi => by rcases look01 i oc hi with ⟨rfl, rfl⟩ | ⟨rfl, rfl⟩ <;> exact ⟨by decide, rfl⟩)
      (fun i hi => by
        match i, hi with
        | 0, _ => rw [m0]; exact (hfr id o ho).1
        | 1, _ => rw [m1]; exact (hfr j _ hj).1)
      (fun i oc hi => by
        rcases look01 i oc hi with ⟨rfl, rfl⟩ | ⟨rfl, rfl⟩
        · rw [m0]
          refine ⟨o, ho, .reads ?_⟩
          rcases ho' with rfl | rfl
          · exact .inl (by simp only [renL, ren, m1])
          · exact .inr (by simp only [renL, ren, m1])
        · rw [m1]; exact ⟨_, hj, .mapo _ _ _⟩)
      (fun i i' oc oc' hi hi' hii _ => by
        rcases look01 i oc hi with ⟨rfl, rfl⟩ | ⟨rfl, rfl⟩ <;> rcases look01 i' oc' hi' with ⟨rfl, rfl⟩ | ⟨rfl, rfl⟩
        · exact absurd rfl hii
        · rw [m0, m1]; exact hne
        · rw [m0, m1]; exact fun e => hne e.symm
        · exact absurd rfl hii)
      (fun i oc hi hown => by
        rcases look01 i oc hi with ⟨rfl, rfl⟩ | ⟨rfl, rfl⟩
        · cases hown
        · exact ⟨_, rfl, .inl rfl⟩)
    have e1 : denL ρ (renL m (.ptr 0 0 :: rest)) = denL ρ (.ptr id 0 :: rest) := by
      simp only [renL, ren, m0, renr rest hrest]
    rw [e1] at this
    have e2 : ren (mr m 2 lo) (e y.1) = e y.1 := ren_lt0 _ _ hy1
    have e3 : updGo (mr m 2 lo) (hcT y.2) (hcT y.2) = [(j, .mapo ksF vsF y.2)] := by
      show (mr m 2 lo 1, renO (mr m 2 lo) (.mapo ksF vsF y.2)) :: [] = _
      rw [show mr m 2 lo 1 = m 1 from rfl, m1]
      rfl
    rw [e2, e3] at this
    exact this
  · cases hr
theorem made_same {B : Nat → Prop} {ρ ρ' : Rho} {h : Hp} {w w' : World} {lo hi j : Nat} {s : SV} {v : Value} {o : AObj} (hj : look h j = some o) (m : Made B ρ h w lo hi ⟨s, [(j, o)]⟩ ρ' v w') : Made B ρ h w lo hi ⟨s, []⟩ ρ' v w' := by
  have lk : ∀ i, look (puts h [(j, o)]) i = look h i := fun i => by
    simp only [puts, look_put]
    split
    · rename_i e; subst e; exact hj.symm
    · rfl
  refine ⟨m.val, m.rho, ⟨fun i x hx => m.hr.ok i x (by rw [lk]; exact hx), fun i x hx => m.hr.inB i x (by rw [lk]; exact hx), fun i x hx => m.hr.arg i x (by rw [lk]; exact hx), fun i j x y hx hy => m.hr.inj i j x y (by rw [lk]; exact hx) (by rw [lk]; exact hy)⟩, m.ks⟩
theorem cTabR_ok {f : FuncId} {X : Type} {e : X → SV} {V : List SV → List (KF × VF) → Option X} (B : Nat → Prop) (hW : ConOk Try.prog B f (cTab e (fun rest l => (V rest l).map fun x => (x, l)))) : ConOk Try.prog B f (cTabR e V) := by
  intro args ρ h w lo out ids hr hrh hfr hfa up
  unfold cTabR at hr
  split at hr
  · rename_i id rest
    obtain ⟨hrest, hr⟩ := cond_run hr
    obtain ⟨j, l, ids', o, ho, ho', hj, hr⟩ := tabR_run hr
    obtain ⟨y, hy, hr⟩ := opt_run hr
    cases hr
    have hrun : ∃ ids2, (cTab e (fun rest l => (V rest l).map fun x => (x, l)) (.ptr id 0 :: rest) lo).run h = some (⟨e y, [(j, .mapo ksF vsF l)]⟩, ids2) := by
      unfold cTab
      simp only [hrest, cond_true]
      unfold tabR
      simp only [Rd.run, ho]
      have hmap : ∃ ids3, (mapR j fun l => Rd.opt ((V rest l).map fun x => (x, l)) fun y => Rd.ret (⟨e y.1, [(j, .mapo ksF vsF y.2)]⟩ : Out)).run h = some (⟨e y, [(j, .mapo ksF vsF l)]⟩, ids3) := by
        unfold mapR
        simp only [Rd.run, hj]
        have hc : castM ksF vsF l = some l := rfl
        rw [hc]
        simp only [Rd.run, hy, Option.map_some]
        exact ⟨_, rfl⟩
      obtain ⟨ids3, h3⟩ := hmap
      rcases ho' with rfl | rfl
      · simp only [h3, Option.map_some]; exact ⟨_, rfl⟩
      · simp only [h3, Option.map_some]; exact ⟨_, rfl⟩
    obtain ⟨ids2, h2⟩ := hrun
    have := hW _ ρ h w lo _ _ h2 hrh hfr hfa up
    rcases this with ⟨h1, h3⟩ | h1
    · exact .inl ⟨h1, h3.mono fun x w' ⟨v, hv, ρ', m⟩ => ⟨v, hv, ρ', made_same hj m⟩⟩
    · obtain ⟨v, w', h3, ρ', m⟩ := h1
      exact .inr ⟨v, w', h3, ρ', made_same hj m⟩
  · cases hr
end Go.Proofs.Ytogmjkmnknaieaa.Ax
namespace Go.Proofs.Ytogmjkmnknaieaa.Ax
open Go Go.RowKit Go.Proofs.Ytogmjkmnknaieaa.Print
set_option linter.unusedVariables false
set_option linter.unusedSimpArgs false
noncomputable def CF0 : FuncId → Option Con
  | 17 => some cNamed
  | 18 => some cGood
  | 31 => some cOfC
  | 22 => some cMulDiv
  | 16 => some (autoP false C0 Try.f16)
  | 19 => some (autoP false C0 Try.f19)
  | _ => none
theorem CF0_ok : ∀ B' g φ, CF0 g = some φ → ConOk Try.prog B' g φ := by
  intro B' g φ h
  unfold CF0 at h
  split at h <;> first | (cases h; done) | skip
  · cases h; exact cNamed_ok B'
  · cases h; exact cGood_ok B'
  · cases h; exact cOfC_ok B'
  · cases h; exact cMulDiv_ok B'
  · cases h; exact autoP_ok false C0_ok Try.func16 (by kernel_rfl) (by kernel_rfl) B'
  · cases h; exact autoP_ok false C0_ok Try.func19 (by kernel_rfl) (by kernel_rfl) B'
noncomputable def CF1 : FuncId → Option Con
  | 21 => some (autoP true CF0 Try.f21)
  | 23 => some (autoP true CF0 Try.f23)
  | g => CF0 g
theorem CF1_ok : ∀ B' g φ, CF1 g = some φ → ConOk Try.prog B' g φ := by
  intro B' g φ h
  unfold CF1 at h
  split at h
  · cases h; exact autoP_ok true CF0_ok Try.func21 (by kernel_rfl) (by kernel_rfl) B'
  · cases h; exact autoP_ok true CF0_ok Try.func23 (by kernel_rfl) (by kernel_rfl) B'
  · exact CF0_ok B' _ φ h
noncomputable def CF2 : FuncId → Option Con
  | 20 => some (autoP true CF1 Try.f20)
  | g => CF1 g
theorem CF2_ok : ∀ B' g φ, CF2 g = some φ → ConOk Try.prog B' g φ := by
  intro B' g φ h
  unfold CF2 at h
  split at h
  · cases h; exact autoP_ok true CF1_ok Try.func20 (by kernel_rfl) (by kernel_rfl) B'
  · exact CF1_ok B' _ φ h
noncomputable abbrev mOkF (k : KF) (l : List (KF × VF)) : Bool := mOk Try.prog 54 ksF vsF k l
noncomputable abbrev mFindF (k : KF) (l : List (KF × VF)) : Option VF := mFind Try.prog 54 ksF vsF k l
def iI (x : Int) : SV := .v (.int .i64 x)
def i2 (x : Int × Int) : SV := .tup [.v (.int .i64 x.1), .v (.int .i64 x.2)]
def i3 (x : Int × Int × Int) : SV := .tup [.v (.int .i64 x.1), .v (.int .i64 x.2.1), .v (.int .i64 x.2.2)]
def toT {X : Type} (e : X → SV) (y : Option (X × List (KF × VF))) : Option (SV × Hp) := match y with
  | some z => some (e z.1, hcT z.2)
  | none => none
def lenF (rest : List SV) (l : List (KF × VF)) : Option Int := match rest with
  | [] => some (l.length : Int)
  | _ :: _ => none
theorem lenF_tree (l : List (KF × VF)) : tabEv CF0 Try.f13 [] l = some (iI (l.length : Int), hcT l) := by kernel_rfl
noncomputable def setV (x : KF) (n d : Int) (l : List (KF × VF)) : Option (Int × List (KF × VF)) :=
  sel (!namedV x.1) (some (40, l)) (sel (!goodB x.2.1 x.2.2.1 x.2.2.2) (some (2, l)) (sel (x.2.1 != 2) (some (2, l)) (sel (decide (1 ≤ n)) (sel (!decide (n ≤ 1099511627776)) (some (2, l))
    (sel (decide (1 ≤ d)) (sel (!decide (d ≤ 1099511627776)) (some (2, l)) (sel (mOkF x l) (sel (mFindF x l).isSome (some (50, l)) (sel (mOkF x l && (mFindF x l).isNone) (some (0, l ++ [(x, (n, d))])) none)) none)) (some (2, l)))) (some (2, l)))))
theorem set_tree (s : ByteArray) (k y i n d : Int) (l : List (KF × VF)) : tabEv CF0 Try.f8 [.v (.string s), .agg [.v (.int .i64 k), .v (.int .i64 y), .v (.int .i64 i)], .v (.int .i64 n), .v (.int .i64 d)] l =
    sel (!namedV s) (toT iI (some (40, l))) (sel (!goodB k y i) (toT iI (some (2, l))) (sel (k != 2) (toT iI (some (2, l))) (sel (decide (1 ≤ n)) (sel (!decide (n ≤ 1099511627776)) (toT iI (some (2, l)))
    (sel (decide (1 ≤ d)) (sel (!decide (d ≤ 1099511627776)) (toT iI (some (2, l))) (sel (mOkF (s, k, y, i) l) (sel (mFindF (s, k, y, i) l).isSome (toT iI (some (50, l))) (sel (mOkF (s, k, y, i) l && (mFindF (s, k, y, i) l).isNone) (toT iI (some (0, l ++ [((s, k, y, i), (n, d))]))) none)) none)) (toT iI (some (2, l))))) (toT iI (some (2, l)))))) := by kernel_rfl
noncomputable def rateV (s : ByteArray) (d : Int) (l : List (KF × VF)) : Option (Int × Int × Int) :=
  sel (s.toList == ([] : List UInt8)) (some (1, 1, 0)) (sel (!namedV s) (some (0, 0, 40)) (sel ((ofV d 2).2.2.2 != 0) (some (0, 0, (ofV d 2).2.2.2))
    (sel (mOkF (s, (ofV d 2).1, (ofV d 2).2.1, (ofV d 2).2.2.1) l) (sel (!(mFindF (s, (ofV d 2).1, (ofV d 2).2.1, (ofV d 2).2.2.1) l).isSome) (some (0, 0, 61))
      (some (((mFindF (s, (ofV d 2).1, (ofV d 2).2.1, (ofV d 2).2.2.1) l).getD (0, 0)).1, ((mFindF (s, (ofV d 2).1, (ofV d 2).2.1, (ofV d 2).2.2.1) l).getD (0, 0)).2, 0))) none)))
abbrev tR (x : Int × Int × Int) (l : List (KF × VF)) : Option (SV × Hp) := some (i3 x, hcT l)
theorem rate_tree (s : ByteArray) (d : Int) (l : List (KF × VF)) : tabEv CF2 Try.f10 [.v (.string s), .v (.int .i64 d)] l =
    sel (s.toList == ([] : List UInt8)) (tR (1, 1, 0) l) (sel (!namedV s) (tR (0, 0, 40) l) (sel ((ofV d 2).2.2.2 != 0) (tR (0, 0, (ofV d 2).2.2.2) l)
    (sel (mOkF (s, (ofV d 2).1, (ofV d 2).2.1, (ofV d 2).2.2.1) l) (sel (!(mFindF (s, (ofV d 2).1, (ofV d 2).2.1, (ofV d 2).2.2.1) l).isSome) (tR (0, 0, 61) l)
      (tR (((mFindF (s, (ofV d 2).1, (ofV d 2).2.1, (ofV d 2).2.2.1) l).getD (0, 0)).1, ((mFindF (s, (ofV d 2).1, (ofV d 2).2.1, (ofV d 2).2.2.1) l).getD (0, 0)).2, 0) l)) none))) := by kernel_rfl
noncomputable def convV (s : ByteArray) (d a : Int) (l : List (KF × VF)) : Option (Int × Int) :=
  sel (s.toList == ([] : List UInt8)) (some (mulDivV a 1 1)) (sel (!namedV s) (some (0, 40)) (sel ((ofV d 2).2.2.2 != 0) (some (0, (ofV d 2).2.2.2))
    (sel (mOkF (s, (ofV d 2).1, (ofV d 2).2.1, (ofV d 2).2.2.1) l) (sel (!(mFindF (s, (ofV d 2).1, (ofV d 2).2.1, (ofV d 2).2.2.1) l).isSome) (some (0, 61))
      (some (mulDivV a ((mFindF (s, (ofV d 2).1, (ofV d 2).2.1, (ofV d 2).2.2.1) l).getD (0, 0)).1 ((mFindF (s, (ofV d 2).1, (ofV d 2).2.1, (ofV d 2).2.2.1) l).getD (0, 0)).2))) none)))
abbrev tC (x : Int × Int) (l : List (KF × VF)) : Option (SV × Hp) := some (i2 x, hcT l)
theorem conv_tree (s : ByteArray) (d a : Int) (l : List (KF × VF)) : tabEv CF2 Try.f9 [.v (.string s), .v (.int .i64 d), .v (.int .i64 a)] l =
    sel (s.toList == ([] : List UInt8)) (tC (mulDivV a 1 1) l) (sel (!namedV s) (tC (0, 40) l) (sel ((ofV d 2).2.2.2 != 0) (tC (0, (ofV d 2).2.2.2) l)
    (sel (mOkF (s, (ofV d 2).1, (ofV d 2).2.1, (ofV d 2).2.2.1) l) (sel (!(mFindF (s, (ofV d 2).1, (ofV d 2).2.1, (ofV d 2).2.2.1) l).isSome) (tC (0, 61) l)
      (tC (mulDivV a ((mFindF (s, (ofV d 2).1, (ofV d 2).2.1, (ofV d 2).2.2.1) l).getD (0, 0)).1 ((mFindF (s, (ofV d 2).1, (ofV d 2).2.1, (ofV d 2).2.2.1) l).getD (0, 0)).2) l)) none))) := by kernel_rfl
noncomputable def setQ (rest : List SV) (l : List (KF × VF)) : Option (Int × List (KF × VF)) := match rest with
  | [.v (.string s), .agg [.v (.int .i64 k), .v (.int .i64 y), .v (.int .i64 i)], .v (.int .i64 n), .v (.int .i64 d)] => setV (s, k, y, i) n d l
  | _ => none
noncomputable def rateQ (rest : List SV) (l : List (KF × VF)) : Option (Int × Int × Int) := match rest with
  | [.v (.string s), .v (.int .i64 d)] => rateV s d l
  | _ => none
noncomputable def convQ (rest : List SV) (l : List (KF × VF)) : Option (Int × Int) := match rest with
  | [.v (.string s), .v (.int .i64 d), .v (.int .i64 a)] => convV s d a l
  | _ => none
theorem selS {α β : Type} {f : α → β} {b : Bool} {x y : Option α} {z : α} (h : sel b x y = some z) {X Y : Option β} (hx : x = some z → X = some (f z)) (hy : y = some z → Y = some (f z)) : sel b X Y = some (f z) := by
  cases b with
  | true => exact hx h
  | false => exact hy h
noncomputable def cSetT : Con := cTab iI setQ
noncomputable def cRateT : Con := cTabR i3 rateQ
noncomputable def cConvT : Con := cTabR i2 convQ
noncomputable def cLenT : Con := cTabR iI lenF
theorem cSetT_ok (B) : ConOk Try.prog B 8 cSetT := by
  refine cTab_ok CF0_ok Try.func8 (by kernel_rfl) rfl (fun x => rfl) (fun rest l y h => ?_) B
  unfold setQ at h
  split at h
  · rename_i s k yy i n d
    rw [set_tree s k yy i n d l]
    unfold setV at h
    refine selS (f := fun y => (iI y.1, hcT y.2)) h (fun h => by cases h; rfl) fun h => ?_
    refine selS (f := fun y => (iI y.1, hcT y.2)) h (fun h => by cases h; rfl) fun h => ?_
    refine selS (f := fun y => (iI y.1, hcT y.2)) h (fun h => by cases h; rfl) fun h => ?_
    refine selS (f := fun y => (iI y.1, hcT y.2)) h (fun h => ?_) (fun h => by cases h; rfl)
    refine selS (f := fun y => (iI y.1, hcT y.2)) h (fun h => by cases h; rfl) fun h => ?_
    refine selS (f := fun y => (iI y.1, hcT y.2)) h (fun h => ?_) (fun h => by cases h; rfl)
    refine selS (f := fun y => (iI y.1, hcT y.2)) h (fun h => by cases h; rfl) fun h => ?_
    refine selS (f := fun y => (iI y.1, hcT y.2)) h (fun h => ?_) (fun h => by cases h)
    refine selS (f := fun y => (iI y.1, hcT y.2)) h (fun h => by cases h; rfl) fun h => ?_
    exact selS (f := fun y => (iI y.1, hcT y.2)) h (fun h => by cases h; rfl) (fun h => by cases h)
  · cases h
theorem cRateT_ok (B) : ConOk Try.prog B 10 cRateT := by
  refine cTabR_ok B (cTab_ok CF2_ok Try.func10 (by kernel_rfl) rfl (fun x => rfl) (fun rest l y h => ?_) B)
  obtain ⟨x, hq, rfl⟩ := Option.map_eq_some_iff.1 h
  clear h
  have h := hq
  clear hq
  unfold rateQ at h
  split at h
  · rename_i s d
    rw [rate_tree s d l]
    unfold rateV at h
    refine selS (f := fun y => (i3 y, hcT l)) h (fun h => by cases h; rfl) fun h => ?_
    refine selS (f := fun y => (i3 y, hcT l)) h (fun h => by cases h; rfl) fun h => ?_
    refine selS (f := fun y => (i3 y, hcT l)) h (fun h => by cases h; rfl) fun h => ?_
    refine selS (f := fun y => (i3 y, hcT l)) h (fun h => ?_) (fun h => by cases h)
    exact selS (f := fun y => (i3 y, hcT l)) h (fun h => by cases h; rfl) (fun h => by cases h; rfl)
  · cases h
theorem cConvT_ok (B) : ConOk Try.prog B 9 cConvT := by
  refine cTabR_ok B (cTab_ok CF2_ok Try.func9 (by kernel_rfl) rfl (fun x => rfl) (fun rest l y h => ?_) B)
  obtain ⟨x, hq, rfl⟩ := Option.map_eq_some_iff.1 h
  clear h
  have h := hq
  clear hq
  unfold convQ at h
  split at h
  · rename_i s d a
    rw [conv_tree s d a l]
    unfold convV at h
    refine selS (f := fun y => (i2 y, hcT l)) h (fun h => by cases h; rfl) fun h => ?_
    refine selS (f := fun y => (i2 y, hcT l)) h (fun h => by cases h; rfl) fun h => ?_
    refine selS (f := fun y => (i2 y, hcT l)) h (fun h => by cases h; rfl) fun h => ?_
    refine selS (f := fun y => (i2 y, hcT l)) h (fun h => ?_) (fun h => by cases h)
    exact selS (f := fun y => (i2 y, hcT l)) h (fun h => by cases h; rfl) (fun h => by cases h; rfl)
  · cases h
theorem cLenT_ok (B) : ConOk Try.prog B 13 cLenT := by
  refine cTabR_ok B (cTab_ok CF0_ok Try.func13 (by kernel_rfl) rfl (fun x => rfl) (fun rest l y h => ?_) B)
  obtain ⟨x, hq, rfl⟩ := Option.map_eq_some_iff.1 h
  clear h
  have h := hq
  clear hq
  unfold lenF at h
  split at h
  · cases h; exact lenF_tree l
  · cases h
end Go.Proofs.Ytogmjkmnknaieaa.Ax
namespace Go.Proofs.Ytogmjkmnknaieaa.Ax
open Go Go.RowKit Go.Proofs.Ytogmjkmnknaieaa.Print
set_option linter.unusedVariables false
set_option linter.unusedSimpArgs false
abbrev qInt : Pc := .one (.int .i64)
abbrev qBool : Pc := .one .bool
abbrev stR : List Sc := [.str, .int .i64, .int .i64, .int .i64, .int .i64, .int .i64]
abbrev RF := ByteArray × Int × Int × Int × Int × Int
abbrev yesT : Option (Bool × Unit) := some (true, ())
abbrev noT : Option (Bool × Unit) := some (false, ())
noncomputable def CL : FuncId → Option Con
  | 7 => some (autoP true C0 Try.f7)
  | 8 => some cSetT
  | 10 => some cRateT
  | 9 => some cConvT
  | 13 => some cLenT
  | _ => none
theorem CL_ok : ∀ B' g φ, CL g = some φ → ConOk Try.prog B' g φ := by
  intro B' g φ h
  unfold CL at h
  split at h <;> first | (cases h; done) | skip
  · cases h; exact autoP_ok true C0_ok Try.func7 (by kernel_rfl) (by kernel_rfl) B'
  · cases h; exact cSetT_ok B'
  · cases h; exact cRateT_ok B'
  · cases h; exact cConvT_ok B'
  · cases h; exact cLenT_ok B'
theorem lives_ev : evX Try.prog CL cn0 40 Try.f6 [] [qBool] () = yesT := by kernel_rfl
noncomputable def cLives : Con := conX [] [qBool] (fun _ => yesT)
theorem cLives_ok (B) : ConOk Try.prog B 6 cLives :=
  toldP CL_ok Try.func6 (by kernel_rfl) (by kernel_rfl) _ (fun x y h => by cases h; exact lives_ev) (by decide) B
end Go.Proofs.Ytogmjkmnknaieaa.Ax
namespace Go.Proofs.Ytogmjkmnknaieaa.Ax
open Go Go.RowKit Go.Proofs.Ytogmjkmnknaieaa.Print
set_option linter.unusedVariables false
set_option linter.unusedSimpArgs false
abbrev TbF := Nat → Option (List Nat × List (Nat × TypeId × List Sc))
abbrev vi (a : Int) : SV := .v (.int .i64 a)
abbrev OB := Option (Bool × Unit)
def idxP {α β : Type} (l : List α) (i : Int) (x : Option β) : Option β := sel (decide (0 ≤ i)) (sel (decide (i < (l.length : Int))) (sel (decide (i.toNat < l.length)) x none) none) none
noncomputable def COw : FuncId → Option Con
  | 6 => some cLives
  | g => CL g
theorem COw_ok : ∀ B' g φ, COw g = some φ → ConOk Try.prog B' g φ := by
  intro B' g φ h
  unfold COw at h
  split at h
  · cases h; exact cLives_ok B'
  · exact CL_ok B' _ φ h
abbrev IT : IntKind := .i64
def rAt (l : List RF) (i : Int) : RF := List.getD l i.toNat (dfl stR)
def keyOf (x : RF) : KF := (x.1, x.2.1, x.2.2.1, x.2.2.2.1)
def valOf (x : RF) : VF := (x.2.2.2.2.1, x.2.2.2.2.2)
end Go.Proofs.Ytogmjkmnknaieaa.Ax
namespace Go.Proofs.Ytogmjkmnknaieaa.Ax
open Go Go.RowKit Go.Proofs.Ytogmjkmnknaieaa.Print
set_option linter.unusedVariables false
set_option linter.unusedSimpArgs false
theorem sel_t {α : Type} (x y : Option α) : sel true x y = x := rfl
theorem sel_f {α : Type} (x y : Option α) : sel false x y = y := rfl
theorem obnd_s {α β : Type} (x : α) (f : α → Option β) : obnd (some x) f = f x := rfl
theorem idxP_ok {α β : Type} {l : List α} {i : Nat} (h : i < l.length) (x : Option β) : idxP l (i : Int) x = x := by
  unfold idxP
  rw [decide_eq_true (show (0 : Int) ≤ (i : Int) by omega), decide_eq_true (show (i : Int) < (l.length : Int) by omega), decide_eq_true (show (i : Int).toNat < l.length by simpa using h)]; rfl
theorem keyEq_iff (x y : KF) : keyEq x y = true ↔ x = y := by
  obtain ⟨a, b, c, d⟩ := x
  obtain ⟨a', b', c', d'⟩ := y
  unfold keyEq
  simp only [Bool.and_eq_true, Bool.and_true, beq_iff_eq, Prod.mk.injEq]
  constructor
  · rintro ⟨h1, h2, h3, h4⟩; exact ⟨ba_eq h1, h2, h3, h4⟩
  · rintro ⟨rfl, h2, h3, h4⟩; exact ⟨ba_self a, h2, h3, h4⟩
def ND (T : List (KF × VF)) : Prop := (T.map (·.1)).Nodup
theorem eqKb_fx (x y : KF) : eqKb Try.prog 54 ksF x y = keyEq x y := by
  unfold eqKb; rw [eqK_fx]
theorem mHit_fx (k : KF) (T : List (KF × VF)) : mHit Try.prog 54 ksF vsF k T = T.filter fun p => keyEq k p.1 := by
  unfold mHit
  exact List.filter_congr fun p _ => eqKb_fx k p.1
theorem filter_ND (k : KF) : ∀ T : List (KF × VF), ND T → (T.filter fun p => keyEq k p.1).length ≤ 1
  | [], _ => by simp
  | p :: T, h => by
    unfold ND at h
    rw [List.map_cons, List.nodup_cons] at h
    have ih := filter_ND k T h.2
    rw [List.filter_cons]
    cases hk : keyEq k p.1 with
    | false => exact ih
    | true =>
      have e := (keyEq_iff k p.1).1 hk
      have : (T.filter fun p => keyEq k p.1) = [] := by
        rw [List.filter_eq_nil_iff]
        intro q hq hc
        have := (keyEq_iff k q.1).1 hc
        exact h.1 (by rw [← e, this]; exact List.mem_map.2 ⟨q, hq, rfl⟩)
      rw [if_pos rfl, this]; simp
theorem mOk_fx (k : KF) {T : List (KF × VF)} (h : ND T) : mOkF k T = true := by
  show mOk _ _ _ _ _ _ = true
  unfold mOk
  rw [Bool.and_eq_true]
  refine ⟨List.all_eq_true.2 fun p _ => by rw [eqK_fx k p.1]; rfl, ?_⟩
  rw [mHit_fx]
  exact Nat.ble_eq_true_of_le (filter_ND k T h)
def fnd (k : KF) (T : List (KF × VF)) : Option VF := (T.find? fun p => keyEq k p.1).map (·.2)
theorem mFind_fx (k : KF) (T : List (KF × VF)) : mFindF k T = fnd k T := by
  show mFind _ _ _ _ _ _ = _
  unfold mFind fnd
  refine (congrArg (fun l : List (KF × VF) => l.head?.map (fun p => p.2)) (mHit_fx k T)).trans ?_
  show ((T.filter fun p => keyEq k p.1).head?).map (fun p => p.2) = _
  rw [List.head?_filter]
theorem fnd_none {k : KF} {T : List (KF × VF)} (h : fnd k T = none) : k ∉ T.map (·.1) := by
  unfold fnd at h
  rw [Option.map_eq_none_iff, List.find?_eq_none] at h
  intro hm
  obtain ⟨p, hp, rfl⟩ := List.mem_map.1 hm
  exact h p hp ((keyEq_iff _ _).2 rfl)
theorem ND_add {k : KF} {v : VF} {T : List (KF × VF)} (h : ND T) (hn : fnd k T = none) : ND (T ++ [(k, v)]) := by
  unfold ND at h ⊢
  rw [List.map_append, List.nodup_append]
  refine ⟨h, by simp, fun x hx y hy => ?_⟩
  simp only [List.map_cons, List.map_nil, List.mem_singleton] at hy
  subst hy
  exact fun e => fnd_none hn (e ▸ hx)
def setP (x : KF) (n d : Int) (T : List (KF × VF)) : Int × List (KF × VF) :=
  if namedV x.1 = false then (40, T) else if goodB x.2.1 x.2.2.1 x.2.2.2 = false ∨ x.2.1 ≠ 2 ∨ n < 1 ∨ n > 1099511627776 ∨ d < 1 ∨ d > 1099511627776 then (2, T) else
    match fnd x T with
    | some _ => (50, T)
    | none => (0, T ++ [(x, (n, d))])
theorem setV_eq (x : KF) (n d : Int) {T : List (KF × VF)} (h : ND T) : setV x n d T = some (setP x n d T) := by
  unfold setV setP
  rw [mOk_fx x h, mFind_fx]
  cases namedV x.1 with
  | false => rfl
  | true =>
    rw [if_neg (by simp)]
    simp only [Bool.not_true, sel_f]
    cases goodB x.2.1 x.2.2.1 x.2.2.2 with
    | false => rw [if_pos (.inl rfl)]; rfl
    | true =>
      simp only [Bool.not_true, sel_f]
      by_cases h2 : x.2.1 = 2
      · rw [show (x.2.1 != 2) = false from by simp [h2], sel_f]
        by_cases h3 : 1 ≤ n
        · rw [decide_eq_true h3, sel_t]
          by_cases h4 : n ≤ 1099511627776
          · rw [decide_eq_true h4]
            simp only [Bool.not_true, sel_f]
            by_cases h5 : 1 ≤ d
            · rw [decide_eq_true h5, sel_t]
              by_cases h6 : d ≤ 1099511627776
              · rw [decide_eq_true h6]
                simp only [Bool.not_true, sel_f, sel_t]
                rw [if_neg (by simp [h2]; omega)]
                cases fnd x T <;> rfl
              · rw [decide_eq_false h6, if_pos (by omega)]; rfl
            · rw [decide_eq_false h5, sel_f, if_pos (by omega)]
          · rw [decide_eq_false h4, if_pos (by omega)]; rfl
        · rw [decide_eq_false h3, sel_f, if_pos (by omega)]
      · rw [show (x.2.1 != 2) = true from by simpa using h2, sel_t, if_pos (.inr (.inl h2))]
end Go.Proofs.Ytogmjkmnknaieaa.Ax
