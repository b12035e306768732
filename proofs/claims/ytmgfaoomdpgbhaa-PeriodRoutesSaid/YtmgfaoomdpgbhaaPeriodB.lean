/- The walks of period.Clock's methods: states, the first open one, where a day's things count; what is closed and filed; a new one, a clone. -/
import Derived.Test.YtmgfaoomdpgbhaaPeriodA
namespace Go.Proofs.Ytmgfaoomdpgbhaa.Ax
open Go Go.RowKit Go.Proofs.Ytmgfaoomdpgbhaa.Print
set_option linter.unusedVariables false
set_option linter.unusedSimpArgs false

theorem con_nil {f : FuncId} {fn : Func} {C : FuncId → Option Con} {B : Nat → Prop} {ρ : Rho} {h : Hp} {w : World} {lo : Nat} (hf : Try.prog.funcs[f]? = some fn) (hname : (fn.name == "runtime.NumGoroutine") = false) (hbody : fn.body.isSome = true)
    (hC : ∀ B' g φ, C g = some φ → ConOk Try.prog B' g φ) {args : List SV} {r : SV} (ha : ltL 0 args = true) (hev : evFn Try.prog C cn0 4 fn args [] 0 K1 = some r) (hr : HR B ρ h w) (up : ∀ b, w.heap.size ≤ b → B b) :
    CallGives Try.prog f (denL ρ args).toArray w fun v w' => ∃ ρ', Made B ρ h w lo (lo + wide) ⟨r, []⟩ ρ' v w' := by
  obtain ⟨c0, hbody⟩ := Option.isSome_iff_exists.1 hbody
  have := con_reads (B := B) mixed hf hname hbody hC (fun B' w => cn0_ok B' w _) args (fun i => i) [] 0 r K1_spec hev ρ h w lo hr up ha (fun i oc hi => by cases hi) (fun i oc hi => by cases hi)
  rwa [renL_id] at this

/-! place -/
def placeV (k y i K Y I : Int) : Int := bif noneB k y i then -1 else bif !goodB K Y I then -1 else bif K != k then -1 else IntKind.i64.wrap (IntKind.i64.wrap (IntKind.i64.wrap (IntKind.i64.wrap (Y - y) * eachC k) + I) - i)
def cPlace : Con := fun args _ => match args with
  | [.v (.pointer none), .agg [.v (.int .i64 K), .v (.int .i64 Y), .v (.int .i64 I)]] => .ret ⟨.v (.int .i64 (-1)), []⟩
  | [.ptr id 0, .agg [.v (.int .i64 K), .v (.int .i64 Y), .v (.int .i64 I)]] => clkR id fun k y i a b => .ret ⟨.v (.int .i64 (placeV k y i K Y I)), []⟩
  | _ => .fail
theorem place_nil (K Y I : Int) : evFn Try.prog CClk cn0 4 Try.f29 [.v (.pointer none), .agg [.v (.int .i64 K), .v (.int .i64 Y), .v (.int .i64 I)]] [] 0 K1 = some (.v (.int .i64 (-1))) := by kernel_rfl
theorem place_tree (k y i a b K Y I : Int) : evFn Try.prog CClk cn0 4 Try.f29 [.ptr 0 0, .agg [.v (.int .i64 K), .v (.int .i64 Y), .v (.int .i64 I)]] [(0, .ro 58 (clkC k y i a b))] 1 K1 =
    sel (noneB k y i) (some (.v (.int .i64 (-1)))) (sel (!goodB K Y I) (some (.v (.int .i64 (-1)))) (sel (K != k) (some (.v (.int .i64 (-1))))
      (some (.v (.int .i64 (IntKind.i64.wrap (IntKind.i64.wrap (IntKind.i64.wrap (IntKind.i64.wrap (Y - y) * eachC k) + I) - i))))))) := by kernel_rfl
theorem cPlace_ok (B) : ConOk Try.prog B 29 cPlace := by
  intro args ρ h w lo out ids hr hrh hfr hfa up
  unfold cPlace at hr
  split at hr
  · rename_i K Y I
    cases hr
    exact con_nil Try.func29 (by kernel_rfl) (by kernel_rfl) CClk_ok rfl (place_nil K Y I) hrh up
  · rename_i id K Y I
    obtain ⟨k, y, i, a, b, o, ids', ho, hk, hr⟩ := clkR_run hr
    cases hr
    refine con_ro1 (F := 4) mixed Try.func29 (by kernel_rfl) (by kernel_rfl) CClk_ok (fun B' w => cn0_ok B' w _) rfl rfl (r := .v (.int .i64 (placeV k y i K Y I))) ?_ hrh up ho hk
    rw [place_tree]
    unfold placeV
    cases noneB k y i <;> cases goodB K Y I <;> cases (K != k) <;> rfl
  · cases hr
def CPl : FuncId → Option Con
  | 29 => some cPlace
  | g => CClk g
theorem CPl_ok : ∀ B' g φ, CPl g = some φ → ConOk Try.prog B' g φ := by
  intro B' g φ h
  unfold CPl at h
  split at h
  · cases h; exact cPlace_ok B'
  · exact CClk_ok B' _ φ h

/-! State -/
def stateV (k y i a b K Y I : Int) : Int := bif decide (placeV k y i K Y I < 0) then 0 else bif decide (placeV k y i K Y I < b) then 3 else bif decide (placeV k y i K Y I < a) then 2 else 1
def cState : Con := fun args _ => match args with
  | [.v (.pointer none), .agg [.v (.int .i64 K), .v (.int .i64 Y), .v (.int .i64 I)]] => .ret ⟨.v (.int .i64 0), []⟩
  | [.ptr id 0, .agg [.v (.int .i64 K), .v (.int .i64 Y), .v (.int .i64 I)]] => clkR id fun k y i a b => .ret ⟨.v (.int .i64 (stateV k y i a b K Y I)), []⟩
  | _ => .fail
theorem state_nil (K Y I : Int) : evFn Try.prog CPl cn0 4 Try.f9 [.v (.pointer none), .agg [.v (.int .i64 K), .v (.int .i64 Y), .v (.int .i64 I)]] [] 0 K1 = some (.v (.int .i64 0)) := by kernel_rfl
theorem state_tree (k y i a b K Y I : Int) : evFn Try.prog CPl cn0 4 Try.f9 [.ptr 0 0, .agg [.v (.int .i64 K), .v (.int .i64 Y), .v (.int .i64 I)]] [(0, .ro 58 (clkC k y i a b))] 1 K1 =
    sel (decide (placeV k y i K Y I < 0)) (some (.v (.int .i64 0))) (sel (decide (placeV k y i K Y I < b)) (some (.v (.int .i64 3))) (sel (decide (placeV k y i K Y I < a)) (some (.v (.int .i64 2))) (some (.v (.int .i64 1))))) := by kernel_rfl
theorem cState_ok (B) : ConOk Try.prog B 9 cState := by
  intro args ρ h w lo out ids hr hrh hfr hfa up
  unfold cState at hr
  split at hr
  · rename_i K Y I
    cases hr
    exact con_nil Try.func9 (by kernel_rfl) (by kernel_rfl) CPl_ok rfl (state_nil K Y I) hrh up
  · rename_i id K Y I
    obtain ⟨k, y, i, a, b, o, ids', ho, hk, hr⟩ := clkR_run hr
    cases hr
    refine con_ro1 (F := 4) mixed Try.func9 (by kernel_rfl) (by kernel_rfl) CPl_ok (fun B' w => cn0_ok B' w _) rfl rfl (r := .v (.int .i64 (stateV k y i a b K Y I))) ?_ hrh up ho hk
    rw [state_tree]
    unfold stateV
    cases decide (placeV k y i K Y I < 0) <;> cases decide (placeV k y i K Y I < b) <;> cases decide (placeV k y i K Y I < a) <;> rfl
  · cases hr

/-! at, First -/
def cAt : Con := fun args _ => match args with
  | [.ptr id 0, .v (.int .i64 d)] => clkR id fun k y i a b => .br (rngB d) (.ret ⟨.agg [.v (.int .i64 (nextV k y i d).1), .v (.int .i64 (nextV k y i d).2.1), .v (.int .i64 (nextV k y i d).2.2.1)], []⟩) .fail
  | _ => .fail
theorem at_tree (k y i a b d : Int) : evFn Try.prog CPl cn0 4 Try.f31 [.ptr 0 0, .v (.int .i64 d)] [(0, .ro 58 (clkC k y i a b))] 1 K1 =
    sel (rngB d) (some (.agg [.v (.int .i64 (nextV k y i d).1), .v (.int .i64 (nextV k y i d).2.1), .v (.int .i64 (nextV k y i d).2.2.1)])) none := by kernel_rfl
theorem cAt_ok (B) : ConOk Try.prog B 31 cAt := by
  intro args ρ h w lo out ids hr hrh hfr hfa up
  unfold cAt at hr
  split at hr
  · rename_i id d
    obtain ⟨k, y, i, a, b, o, ids', ho, hk, hr⟩ := clkR_run hr
    obtain ⟨hb, hr⟩ := br_run (h := h) hr
    cases hr
    refine con_ro1 (F := 4) mixed Try.func31 (by kernel_rfl) (by kernel_rfl) CPl_ok (fun B' w => cn0_ok B' w _) rfl rfl (r := .agg [.v (.int .i64 (nextV k y i d).1), .v (.int .i64 (nextV k y i d).2.1), .v (.int .i64 (nextV k y i d).2.2.1)]) ?_ hrh up ho hk
    rw [at_tree, hb]; rfl
  · cases hr
def CAt : FuncId → Option Con
  | 31 => some cAt
  | 9 => some cState
  | g => CPl g
theorem CAt_ok : ∀ B' g φ, CAt g = some φ → ConOk Try.prog B' g φ := by
  intro B' g φ h
  unfold CAt at h
  split at h
  · cases h; exact cAt_ok B'
  · cases h; exact cState_ok B'
  · exact CPl_ok B' _ φ h
/-- The first open period. -/
def frV (k y i a : Int) : Int × Int × Int := bif noneB k y i then (0, 0, 0) else ((nextV k y i a).1, (nextV k y i a).2.1, (nextV k y i a).2.2.1)
abbrev p3 (x : Int × Int × Int) : SV := .agg [.v (.int .i64 x.1), .v (.int .i64 x.2.1), .v (.int .i64 x.2.2)]
def cFirst : Con := fun args _ => match args with
  | [.v (.pointer none)] => .ret ⟨.agg [.v (.int .i64 0), .v (.int .i64 0), .v (.int .i64 0)], []⟩
  | [.ptr id 0] => clkR id fun k y i a b => .br (rngB a) (.ret ⟨.agg [.v (.int .i64 (frV k y i a).1), .v (.int .i64 (frV k y i a).2.1), .v (.int .i64 (frV k y i a).2.2)], []⟩) .fail
  | _ => .fail
theorem first_nil : evFn Try.prog CAt cn0 4 Try.f10 [.v (.pointer none)] [] 0 K1 = some (.agg [.v (.int .i64 0), .v (.int .i64 0), .v (.int .i64 0)]) := by kernel_rfl
theorem first_tree (k y i a b : Int) : evFn Try.prog CAt cn0 4 Try.f10 [.ptr 0 0] [(0, .ro 58 (clkC k y i a b))] 1 K1 =
    sel (noneB k y i) (some (.agg [.v (.int .i64 0), .v (.int .i64 0), .v (.int .i64 0)])) (sel (rngB a) (some (.agg [.v (.int .i64 (nextV k y i a).1), .v (.int .i64 (nextV k y i a).2.1), .v (.int .i64 (nextV k y i a).2.2.1)])) none) := by kernel_rfl
theorem cFirst_ok (B) : ConOk Try.prog B 10 cFirst := by
  intro args ρ h w lo out ids hr hrh hfr hfa up
  unfold cFirst at hr
  split at hr
  · cases hr
    exact con_nil Try.func10 (by kernel_rfl) (by kernel_rfl) CAt_ok rfl first_nil hrh up
  · rename_i id
    obtain ⟨k, y, i, a, b, o, ids', ho, hk, hr⟩ := clkR_run hr
    obtain ⟨hb, hr⟩ := br_run (h := h) hr
    cases hr
    refine con_ro1 (F := 4) mixed Try.func10 (by kernel_rfl) (by kernel_rfl) CAt_ok (fun B' w => cn0_ok B' w _) rfl rfl (r := .agg [.v (.int .i64 (frV k y i a).1), .v (.int .i64 (frV k y i a).2.1), .v (.int .i64 (frV k y i a).2.2)]) ?_ hrh up ho hk
    rw [first_tree, hb]
    unfold frV
    cases noneB k y i <;> rfl
  · cases hr

/-! Kind -/
def kindV (k y i : Int) : Int := bif noneB k y i then 0 else k
def cKind : Con := fun args _ => match args with
  | [.v (.pointer none)] => .ret ⟨.v (.int .i64 0), []⟩
  | [.ptr id 0] => clkR id fun k y i a b => .ret ⟨.v (.int .i64 (kindV k y i)), []⟩
  | _ => .fail
theorem kind_nil : evFn Try.prog CAt cn0 4 Try.f24 [.v (.pointer none)] [] 0 K1 = some (.v (.int .i64 0)) := by kernel_rfl
theorem kind_tree (k y i a b : Int) : evFn Try.prog CAt cn0 4 Try.f24 [.ptr 0 0] [(0, .ro 58 (clkC k y i a b))] 1 K1 = sel (noneB k y i) (some (.v (.int .i64 0))) (some (.v (.int .i64 k))) := by kernel_rfl
theorem cKind_ok (B) : ConOk Try.prog B 24 cKind := by
  intro args ρ h w lo out ids hr hrh hfr hfa up
  unfold cKind at hr
  split at hr
  · cases hr
    exact con_nil Try.func24 (by kernel_rfl) (by kernel_rfl) CAt_ok rfl kind_nil hrh up
  · rename_i id
    obtain ⟨k, y, i, a, b, o, ids', ho, hk, hr⟩ := clkR_run hr
    cases hr
    refine con_ro1 (F := 4) mixed Try.func24 (by kernel_rfl) (by kernel_rfl) CAt_ok (fun B' w => cn0_ok B' w _) rfl rfl (r := .v (.int .i64 (kindV k y i))) ?_ hrh up ho hk
    rw [kind_tree]
    unfold kindV
    cases noneB k y i <;> rfl
  · cases hr

/-! Route -/
def CFr : FuncId → Option Con
  | 10 => some cFirst
  | 24 => some cKind
  | g => CAt g
theorem CFr_ok : ∀ B' g φ, CFr g = some φ → ConOk Try.prog B' g φ := by
  intro B' g φ h
  unfold CFr at h
  split at h
  · cases h; exact cFirst_ok B'
  · cases h; exact cKind_ok B'
  · exact CAt_ok B' _ φ h
def o3 (d k : Int) : Int × Int × Int := ((ofV d k).1, (ofV d k).2.1, (ofV d k).2.2.1)
def stO (k y i a b d : Int) : Int := stateV k y i a b (ofV d k).1 (ofV d k).2.1 (ofV d k).2.2.1
def zeroB (x : Int × Int × Int) : Bool := x.1 == 0 && (x.2.1 == 0 && (x.2.2 == 0 && true))
def routeV (k y i a b d : Int) : (Int × Int × Int) × (Int × Int × Int) × Int :=
  bif noneB k y i then ((0, 0, 0), (0, 0, 0), 1) else bif (ofV d k).2.2.2 != 0 then ((0, 0, 0), (0, 0, 0), 30) else bif stO k y i a b d == 0 then ((0, 0, 0), (0, 0, 0), 30)
    else bif zeroB (frV k y i a) then ((0, 0, 0), (0, 0, 0), 70) else bif stO k y i a b d == 1 then (o3 d k, o3 d k, 0) else (frV k y i a, o3 d k, 0)
def rt (x : (Int × Int × Int) × (Int × Int × Int) × Int) : SV := .tup [.agg [.v (.int .i64 x.1.1), .v (.int .i64 x.1.2.1), .v (.int .i64 x.1.2.2)], .agg [.v (.int .i64 x.2.1.1), .v (.int .i64 x.2.1.2.1), .v (.int .i64 x.2.1.2.2)], .v (.int .i64 x.2.2)]
def cRoute : Con := fun args _ => match args with
  | [.v (.pointer none), .v (.int .i64 d)] => .ret ⟨.tup [.agg [.v (.int .i64 0), .v (.int .i64 0), .v (.int .i64 0)], .agg [.v (.int .i64 0), .v (.int .i64 0), .v (.int .i64 0)], .v (.int .i64 1)], []⟩
  | [.ptr id 0, .v (.int .i64 d)] => clkR id fun k y i a b => .br (rngB a) (.ret ⟨.tup [.agg [.v (.int .i64 (routeV k y i a b d).1.1), .v (.int .i64 (routeV k y i a b d).1.2.1), .v (.int .i64 (routeV k y i a b d).1.2.2)], .agg [.v (.int .i64 (routeV k y i a b d).2.1.1), .v (.int .i64 (routeV k y i a b d).2.1.2.1), .v (.int .i64 (routeV k y i a b d).2.1.2.2)], .v (.int .i64 (routeV k y i a b d).2.2)], []⟩) .fail
  | _ => .fail
theorem route_nil (d : Int) : evFn Try.prog CFr cn0 4 Try.f13 [.v (.pointer none), .v (.int .i64 d)] [] 0 K1 = some (rt ((0, 0, 0), (0, 0, 0), 1)) := by kernel_rfl
theorem route_tree (k y i a b d : Int) : evFn Try.prog CFr cn0 4 Try.f13 [.ptr 0 0, .v (.int .i64 d)] [(0, .ro 58 (clkC k y i a b))] 1 K1 =
    sel (noneB k y i) (some (rt ((0, 0, 0), (0, 0, 0), 1))) (sel (rngB a) (sel ((ofV d k).2.2.2 != 0) (some (rt ((0, 0, 0), (0, 0, 0), 30))) (sel (stO k y i a b d == 0) (some (rt ((0, 0, 0), (0, 0, 0), 30)))
      (sel (zeroB (frV k y i a)) (some (rt ((0, 0, 0), (0, 0, 0), 70))) (sel (stO k y i a b d == 1) (some (rt (o3 d k, o3 d k, 0))) (some (rt (frV k y i a, o3 d k, 0))))))) none) := by kernel_rfl
theorem cRoute_ok (B) : ConOk Try.prog B 13 cRoute := by
  intro args ρ h w lo out ids hr hrh hfr hfa up
  unfold cRoute at hr
  split at hr
  · rename_i d
    cases hr
    exact con_nil Try.func13 (by kernel_rfl) (by kernel_rfl) CFr_ok rfl (route_nil d) hrh up
  · rename_i id d
    obtain ⟨k, y, i, a, b, o, ids', ho, hk, hr⟩ := clkR_run hr
    obtain ⟨hb, hr⟩ := br_run (h := h) hr
    cases hr
    refine con_ro1 (F := 4) mixed Try.func13 (by kernel_rfl) (by kernel_rfl) CFr_ok (fun B' w => cn0_ok B' w _) rfl rfl (r := rt (routeV k y i a b d)) ?_ hrh up ho hk
    rw [route_tree, hb]
    unfold routeV
    cases noneB k y i <;> cases ((ofV d k).2.2.2 != 0) <;> cases (stO k y i a b d == 0) <;> cases zeroB (frV k y i a) <;> cases (stO k y i a b d == 1) <;> rfl
  · cases hr

/-! Close, File: what is written. -/
def closeV (k y i a b K Y I : Int) : Int × Int := bif noneB k y i then (1, a) else bif stateV k y i a b K Y I == 0 then (2, a) else bif stateV k y i a b K Y I == 2 then (70, a) else bif stateV k y i a b K Y I == 3 then (70, a) else bif placeV k y i K Y I != a then (71, a) else (0, IntKind.i64.wrap (a + 1))
def fileV (k y i a b K Y I : Int) : Int × Int := bif noneB k y i then (1, b) else bif stateV k y i a b K Y I == 0 then (2, b) else bif stateV k y i a b K Y I != 2 then (71, b) else bif placeV k y i K Y I != b then (71, b) else (0, IntKind.i64.wrap (b + 1))
def cClose : Con := fun args _ => match args with
  | [.v (.pointer none), .agg [.v (.int .i64 K), .v (.int .i64 Y), .v (.int .i64 I)]] => .ret ⟨.v (.int .i64 1), []⟩
  | [.ptr id 0, .agg [.v (.int .i64 K), .v (.int .i64 Y), .v (.int .i64 I)]] => clkW id fun k y i a b => .ret ⟨.v (.int .i64 (closeV k y i a b K Y I).1), [(id, .cells 58 (clkC k y i (closeV k y i a b K Y I).2 b))]⟩
  | _ => .fail
def cFile : Con := fun args _ => match args with
  | [.v (.pointer none), .agg [.v (.int .i64 K), .v (.int .i64 Y), .v (.int .i64 I)]] => .ret ⟨.v (.int .i64 1), []⟩
  | [.ptr id 0, .agg [.v (.int .i64 K), .v (.int .i64 Y), .v (.int .i64 I)]] => clkW id fun k y i a b => .ret ⟨.v (.int .i64 (fileV k y i a b K Y I).1), [(id, .cells 58 (clkC k y i a (fileV k y i a b K Y I).2))]⟩
  | _ => .fail
theorem close_nil (K Y I : Int) : evFn Try.prog CFr cn0 4 Try.f11 [.v (.pointer none), .agg [.v (.int .i64 K), .v (.int .i64 Y), .v (.int .i64 I)]] [] 0 K1 = some (.v (.int .i64 1)) := by kernel_rfl
theorem file_nil (K Y I : Int) : evFn Try.prog CFr cn0 4 Try.f12 [.v (.pointer none), .agg [.v (.int .i64 K), .v (.int .i64 Y), .v (.int .i64 I)]] [] 0 K1 = some (.v (.int .i64 1)) := by kernel_rfl
def clkE (e k y i a b : Int) : Option (SV × Hp) := some (.v (.int .i64 e), [(0, .cells 58 (clkC k y i a b))])
theorem close_tree (k y i a b K Y I : Int) : evFn Try.prog CFr cn0 4 Try.f11 [.ptr 0 0, .agg [.v (.int .i64 K), .v (.int .i64 Y), .v (.int .i64 I)]] [(0, .cells 58 (clkC k y i a b))] 1 (KO 1) =
    sel (noneB k y i) (clkE 1 k y i a b) (sel (stateV k y i a b K Y I == 0) (clkE 2 k y i a b) (sel (stateV k y i a b K Y I == 2) (clkE 70 k y i a b) (sel (stateV k y i a b K Y I == 3) (clkE 70 k y i a b) (sel (placeV k y i K Y I != a) (clkE 71 k y i a b) (clkE 0 k y i (IntKind.i64.wrap (a + 1)) b))))) := by kernel_rfl
theorem file_tree (k y i a b K Y I : Int) : evFn Try.prog CFr cn0 4 Try.f12 [.ptr 0 0, .agg [.v (.int .i64 K), .v (.int .i64 Y), .v (.int .i64 I)]] [(0, .cells 58 (clkC k y i a b))] 1 (KO 1) =
    sel (noneB k y i) (clkE 1 k y i a b) (sel (stateV k y i a b K Y I == 0) (clkE 2 k y i a b) (sel (stateV k y i a b K Y I != 2) (clkE 71 k y i a b) (sel (placeV k y i K Y I != b) (clkE 71 k y i a b) (clkE 0 k y i a (IntKind.i64.wrap (b + 1)))))) := by kernel_rfl
theorem cClose_ok (B) : ConOk Try.prog B 11 cClose := by
  intro args ρ h w lo out ids hr hrh hfr hfa up
  unfold cClose at hr
  split at hr
  · rename_i K Y I
    cases hr
    exact con_nil Try.func11 (by kernel_rfl) (by kernel_rfl) CFr_ok rfl (close_nil K Y I) hrh up
  · rename_i id K Y I
    obtain ⟨k, y, i, a, b, ids', ho, hr⟩ := clkW_run hr
    cases hr
    refine con_mut1 (F := 4) mixed Try.func11 (by kernel_rfl) (by kernel_rfl) CFr_ok (fun B' w0 _ => cn0_ok B' w0 _) rfl rfl rfl rfl ?_ hrh hfr up ho
    rw [close_tree]
    unfold closeV
    cases noneB k y i <;> cases (stateV k y i a b K Y I == 0) <;> cases (stateV k y i a b K Y I == 2) <;> cases (stateV k y i a b K Y I == 3) <;> cases (placeV k y i K Y I != a) <;> rfl
  · cases hr
theorem cFile_ok (B) : ConOk Try.prog B 12 cFile := by
  intro args ρ h w lo out ids hr hrh hfr hfa up
  unfold cFile at hr
  split at hr
  · rename_i K Y I
    cases hr
    exact con_nil Try.func12 (by kernel_rfl) (by kernel_rfl) CFr_ok rfl (file_nil K Y I) hrh up
  · rename_i id K Y I
    obtain ⟨k, y, i, a, b, ids', ho, hr⟩ := clkW_run hr
    cases hr
    refine con_mut1 (F := 4) mixed Try.func12 (by kernel_rfl) (by kernel_rfl) CFr_ok (fun B' w0 _ => cn0_ok B' w0 _) rfl rfl rfl rfl ?_ hrh hfr up ho
    rw [file_tree]
    unfold fileV
    cases noneB k y i <;> cases (stateV k y i a b K Y I == 0) <;> cases (stateV k y i a b K Y I != 2) <;> cases (placeV k y i K Y I != b) <;> rfl
  · cases hr

/-! New -/
def cNew : Con := fun args lo => match args with
  | [.v (.int .i64 kd), .v (.int .i64 d)] => .br ((ofV d kd).2.2.2 != 0 || kd == 3) (.ret ⟨.v (.pointer none), []⟩) (.ret ⟨.ptr lo 0, [(lo, .cells 58 (clkC (ofV d kd).1 (ofV d kd).2.1 (ofV d kd).2.2.1 0 0))]⟩)
  | _ => .fail
theorem new_tree (kd d : Int) : evFn Try.prog CFr cn0 4 Try.f8 [.v (.int .i64 kd), .v (.int .i64 d)] [] 0 (KO 0) =
    sel ((ofV d kd).2.2.2 != 0) (some (.v (.pointer none), [])) (sel (kd == 3) (some (.v (.pointer none), [])) (some (.ptr 0 0, [(0, .cells 58 (clkC (ofV d kd).1 (ofV d kd).2.1 (ofV d kd).2.2.1 0 0))]))) := by kernel_rfl
theorem cNew_ok (B) : ConOk Try.prog B 8 cNew := by
  intro args ρ h w lo out ids hr hrh hfr hfa up
  unfold cNew at hr
  split at hr
  · rename_i kd d
    cases hb : ((ofV d kd).2.2.2 != 0 || kd == 3) with
    | true =>
      rw [hb] at hr
      cases hr
      have ht : evFn Try.prog CFr cn0 4 Try.f8 [.v (.int .i64 kd), .v (.int .i64 d)] [] 0 (KO 0) = some (.v (.pointer none), []) := by
        rw [new_tree]
        cases h1 : ((ofV d kd).2.2.2 != 0) with
        | true => rfl
        | false => rw [h1, Bool.false_or] at hb; rw [hb]; rfl
      exact con_new1 mixed Try.func8 (by kernel_rfl) (by kernel_rfl) CFr_ok (fun B' w0 _ => cn0_ok B' w0 _) rfl ht hrh hfr up
    | false =>
      rw [hb] at hr
      cases hr
      have ht : evFn Try.prog CFr cn0 4 Try.f8 [.v (.int .i64 kd), .v (.int .i64 d)] [] 0 (KO 0) = some (.ptr 0 0, [(0, .cells 58 (clkC (ofV d kd).1 (ofV d kd).2.1 (ofV d kd).2.2.1 0 0))]) := by
        rw [new_tree]
        rw [Bool.or_eq_false_iff] at hb
        rw [hb.1, hb.2]; rfl
      exact con_new1 mixed Try.func8 (by kernel_rfl) (by kernel_rfl) CFr_ok (fun B' w0 _ => cn0_ok B' w0 _) rfl ht hrh hfr up
  · cases hr

def CPer : FuncId → Option Con
  | 8 => some cNew
  | 11 => some cClose
  | 12 => some cFile
  | 13 => some cRoute
  | g => CFr g
theorem CPer_ok : ∀ B' g φ, CPer g = some φ → ConOk Try.prog B' g φ := by
  intro B' g φ h
  unfold CPer at h
  split at h
  · cases h; exact cNew_ok B'
  · cases h; exact cClose_ok B'
  · cases h; exact cFile_ok B'
  · cases h; exact cRoute_ok B'
  · exact CFr_ok B' _ φ h

/-! The chapter's example. -/
theorem lives_ev : evFn Try.prog CPer cn0 4 Try.f7 [] [] 0 K1 = some (.v (.bool true)) := by kernel_rfl
def cLives : Con := fun args _ => match args with
  | [] => .ret ⟨.v (.bool true), []⟩
  | _ => .fail
theorem cLives_ok (B) : ConOk Try.prog B 7 cLives := by
  intro args ρ h w lo out ids hr hrh hfr hfa up
  unfold cLives at hr
  split at hr
  · cases hr
    exact con_nil Try.func7 (by kernel_rfl) (by kernel_rfl) CPer_ok rfl lives_ev hrh up
  · cases hr

end Go.Proofs.Ytmgfaoomdpgbhaa.Ax
