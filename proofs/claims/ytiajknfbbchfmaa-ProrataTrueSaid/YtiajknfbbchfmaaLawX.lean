/- Laws as plain functions: of plain values, and of rows that came in. -/
import Derived.Test.YtiajknfbbchfmaaOwn1
import Derived.Test.YtiajknfbbchfmaaAx22
namespace Go.Proofs.Ytiajknfbbchfmaa.Ax
open Go Go.RowKit Go.Proofs.YtiajknfbbchfmaaW.PrintWords
set_option linter.unusedVariables false
set_option linter.unusedSimpArgs false
theorem ba_self (x : ByteArray) : (x == x) = true := by
  show ByteArray.beq x x = true
  unfold ByteArray.beq; simp
theorem row_of_C {α : Type} {d : Kd α} {s : List Sc} {f : α → TT s} (hd : ∀ w x c, d.K w x c → c = enc s (f x)) (hsz : d.sz = s.length) (hs0 : 0 < s.length) {w : World} {A : Option Addr} {c : Nat} {l : List α} (h : Kd.C d w A l.length l) (hc : l.length ≤ c) :
    ∃ L : Loc, (∀ (ρ : Rho) id, ρ id = L → den ρ (.all id) = .slice A l.length c) ∧ (∀ ρ, OK ρ w L (.arg s (l.map f))) := by
  by_cases hl : l = []
  · subst hl
    exact ⟨⟨0, 0, 0, c, true, A⟩, fun ρ id hid => by simp only [den, hid, if_true]; rfl, fun ρ => ⟨rfl, .inl ⟨rfl, rfl⟩⟩⟩
  · obtain ⟨L, h1, h2, h3, rfl, h5⟩ := arg_of_C hd hsz hs0 h hc hl
    exact ⟨L, fun ρ id hid => by simp only [den, hid, h1, h2, h3, Bool.false_eq_true, if_false], h5⟩
section
variable {P : Program} {C : FuncId → Option Con} {cn : Nat → St → Option St} {F : Nat} {f : FuncId} {fn : Func}
theorem calls_of_X (hm : P.follows .mixedOrders = true) (hf : P.funcs[f]? = some fn) (hC : ∀ B' g φ, C g = some φ → ConOk P B' g φ) (hcn : ∀ B' (w : World), CnOk cn B' (Base.of w) fn.ntmps) {lin : List Pc} {x : PT lin} {b : Bool}
    (hev : evX P C cn F fn lin [.one .bool] x = some (b, ())) (ρ : Rho) (w : World) (hok : InOk w 0 (cntP lin 0) (hcA lin x 0) ρ) :
    Calls P f (denL ρ (encA lin x 0)).toArray w fun e w' => e = .returned (.bool b) ∧ Below w.heap.size w w' := by
  have hr : HR (fun b => w.heap.size ≤ b) ρ (hcA lin x 0) w := by
    refine ⟨fun i oc hi => (hok i oc hi).2.2.2.2, fun i oc hi hw => ?_, fun i oc hi hs hn => ?_, fun i j oc oc' hi hj hw => ?_⟩
    · have := (hok i oc hi).2.2.1
      cases oc <;> first | (cases hw; done) | (cases this; done)
    · have := (hok i oc hi).2.2.2.2.lt (fun e => by subst e; cases hs) hn
      show ¬ w.heap.size ≤ _
      omega
    · have := (hok i oc hi).2.2.1
      cases oc <;> first | (cases hw; done) | (cases this; done)
  refine (evFn_sound hm hf (hC _) hev ρ w (Base.of w) rfl (fun i hi => absurd hi (Nat.not_lt_zero _)) (Nat.zero_le _) (hcn _ w) hr (fun i oc hi => ⟨(hok i oc hi).2.1, AObj.lt_mono (Nat.zero_le _) oc (hok i oc hi).2.2.2.1⟩) (encA_lt lin x 0 _ (Nat.le_refl _)) (fun b hb => hb)).mono ?_
  rintro e w' ⟨ρ', s', h', rfl, hk, _, hks, _⟩
  obtain ⟨vs, hvs, rfl⟩ := KX_res hk
  refine ⟨?_, hks.below (fun b hb => hb)⟩
  match vs, hvs with
  | [v], hvs =>
    simp only [decR] at hvs
    cases hd : decR1 (.one .bool) v h' with
    | none => rw [hd] at hvs; cases hvs
    | some z =>
      rw [hd] at hvs
      cases hvs
      rw [decS_den ρ' hd]; rfl
  | v :: v' :: vs, hvs =>
    simp only [decR] at hvs
    split at hvs <;> cases hvs
end
end Go.Proofs.Ytiajknfbbchfmaa.Ax
