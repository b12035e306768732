/- How arguments that came in read, kind by kind: structs by value, slices of structs; for the rows of laws. -/
import Derived.ProofKit
import Derived.OpenShut
import Derived.ShutString
import Derived.Deep.Slices
import Derived.SizedLaws
import Derived.ChangeArms
import Derived.ChangeSlices
import Derived.Test.YtbmapmigiokbcaaX0
import Derived.Test.YtbmapmigiokbcaaAx23
import Derived.Test.YtbmapmigiokbcaaAx4
import Derived.Test.YtbmapmigiokbcaaAx8
namespace Go.Proofs.Ytbmapmigiokbcaa.Print
open Go.ChangeShapes Go.WideShapes Go.ChangeAt Go.RowKit Go.Deep Go.Proofs.YtbmapmigiokbcaaW.PrintWords Go.Proofs.YtbmapmigiokbcaaW.PrintLast Go.Proofs.YtbmapmigiokbcaaW.PrintMore
set_option linter.unusedVariables false
set_option linter.unusedSimpArgs false
def Opens (P : Program) (t : TypeId) {α : Type} (d : Kd α) (G : α → Prop) : Prop :=
  P.cellsOf t = d.sz ∧ ∀ (H : Type) (enc : TypeId × Value → H) (w : World) (base : Nat) (spare : Nat → Bool) (held : Bool) (n : Nat) (cs : List Value) (y : DataW H × List MemPlace), DataW.trod enc P w base spare held n t cs = some y → ∃ a, d.K w a cs ∧ G a
theorem opens_int {P : Program} {t : TypeId} {k : IntKind} (ht : P.underlying t = some (.int k)) (hc : P.cellsOf t = 1) : Opens P t (Kd.int k) (fun a => (Lit.int k a).wf = true) := by
  refine ⟨hc, ?_⟩
  intro H enc w base spare held n cs y h
  obtain ⟨a, e0, rfl, wa⟩ := DataW.trod_int ht h
  exact ⟨a, e0, wa⟩
def OpF (P : Program) (fs : List Field) (off : Nat) {α : Type} (d : Kd α) (G : α → Prop) : Prop :=
  ∀ (H : Type) (enc : TypeId × Value → H) (w : World) (base : Nat) (spare : Nat → Bool) (held : Bool) (n : Nat) (cs : List Value), off + d.sz = cs.length →
    (∀ f ∈ fs, ∃ y, DataW.trod enc P w base spare held n f.type ((cs.drop f.offset).take (P.cellsOf f.type)) = some y) → ∃ a, d.K w a (cs.drop off) ∧ G a
theorem opF_one {P : Program} {f : Field} {off : Nat} {α : Type} {d : Kd α} {G : α → Prop} (ho : f.offset = off) (h : Opens P f.type d G) : OpF P [f] off d G := by
  intro H enc w base spare held n cs hl hf
  obtain ⟨y, hy⟩ := hf f (by simp)
  rw [h.1, ho, List.take_of_length_le (by rw [List.length_drop]; omega)] at hy
  exact h.2 _ _ _ _ _ _ _ _ _ hy
theorem opF_cons {P : Program} {f : Field} {fs : List Field} {off m : Nat} {α β : Type} {d : Kd α} {e : Kd β} {G : α → Prop} {G' : β → Prop} (ho : f.offset = off) (h : Opens P f.type d G) (hm : off + d.sz = m) (hr : OpF P fs m e G') : OpF P (f :: fs) off (Kd.pair d e) (fun p => G p.1 ∧ G' p.2) := by
  intro H enc w base spare held n cs hl hf
  obtain ⟨y, hy⟩ := hf f (by simp)
  have hsz : (Kd.pair d e).sz = d.sz + e.sz := rfl
  rw [h.1, ho] at hy
  obtain ⟨a, ka, ga⟩ := h.2 _ _ _ _ _ _ _ _ _ hy
  obtain ⟨b, kb, gb⟩ := hr H enc w base spare held n cs (by omega) (fun g hg => hf g (by simp [hg]))
  refine ⟨(a, b), ⟨_, _, ?_, ka, kb⟩, ga, gb⟩
  rw [← hm, ← List.drop_drop, List.take_append_drop]
theorem opens_struct {P : Program} {t : TypeId} {fs : Array Field} {α : Type} {d : Kd α} {G : α → Prop} (ht : P.underlying t = some (.struct fs)) (hc : P.cellsOf t = d.sz) (h : OpF P fs.toList 0 d G) : Opens P t d G := by
  refine ⟨hc, ?_⟩
  intro H enc w base spare held n cs y hy
  obtain ⟨xs, m, _, rfl, hl, hlen, hf⟩ := DataW.trod_struct ht hy
  have := h H enc w base spare held m cs (by omega) (fun f hfm => by
    obtain ⟨i, hi⟩ := List.getElem?_of_mem hfm
    have h1 := hf i f (by rw [← Array.getElem?_toList]; exact hi)
    have hil : i < xs.length := by
      have := (List.getElem?_eq_some_iff.1 hi).1
      rw [Array.length_toList] at this
      omega
    exact ⟨xs[i], by rw [h1, List.getElem?_eq_getElem hil]⟩)
  simpa using this
end Go.Proofs.Ytbmapmigiokbcaa.Print
