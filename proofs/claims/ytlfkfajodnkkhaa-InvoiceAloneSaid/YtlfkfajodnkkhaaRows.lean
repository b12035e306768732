/-
  No cell of these rows narrows 'for every input' (looked for: loops, veiled, ifaces, maps, wideKeys, modest, calm, conditions, laid).
  DERIVED. THE GIVEN ROWS OF THIS SEAT. 3 by the template 'for every input the law returns true; each argument reads behind the call as it read before'; 0 by the template 'total and deterministic' (their statements: YtlfkfajodnkkhaaTotals.lean).
  GIVEN WITH THE SEED: the statements are not yours to turn. If you find one false, say at which input.
  Laid BY PROGRAM, IN A SANDBOX (cutbox-rows.mjs): the forced cells as the released guide's own fill.sh prints them over the translation 1d48d79b0a9f418d… (all of the seat's roots in one cut). By AI agents, Wed Nov 11 2026. No macro, syntax, notation, axiom, sorry.
-/
import Derived.Test.YtlfkfajodnkkhaaChecked
import GoSem.Claim
import GoSem.ClaimJoined
import GoSem.ClaimMapViews
import Derived.JoinedTies
import Derived.KernelRfl
namespace Go.Proofs.Ytlfkfajodnkkhaa
/- THE CELL 'sum', in the pinned program and in every row, IS THE sha256 OF THE DUMP (.gsa) THAT YtlfkfajodnkkhaaProg.lean LOADS. Nothing in Lean hashes anything: it is a label: what it is worth is what the hold of that sum in a sandbox is worth. -/
noncomputable def Try.pinned : Pinned := { name := "ytlfkfajodnkkhaa", sum := "1d48d79b0a9f418d79d5c0346a6719e713a301a18a317aab449cc10a555e5b2f", checked := Try.checked }
namespace Rows
def none {H : Type} : Left H := { results := [], args := [] }

/-- 'octroilaw22.InvoiceAlone': WHATEVER THE INPUT: true; the input reads as it did. -/
def invoiceAloneSpec : ChangeSpec := { name := "invoiceAlone", fn := fun _ => fun
  | [d] => { results := [.lit (.bool true)], args := [d] }
  | _ => none }
def invoiceAloneRow : OpenClaim := { program := "ytlfkfajodnkkhaa", sum := "1d48d79b0a9f418d79d5c0346a6719e713a301a18a317aab449cc10a555e5b2f", func := "octroi/octroilaw22.InvoiceAlone", spec := "invoiceAlone", inPlace := ["math/bits.Add64"], unfollowed := true, recurses := true, named := ["math/bits.divideError", "math/bits.overflowError"], plainKeys := false, apart := false }
def InvoiceAloneSaid : Prop := invoiceAloneRow.holds Try.pinned (OpenSpec.ofChange invoiceAloneSpec)

/-- ITS FALSE NEIGHBOUR: 'it returns false'. Refute it at one input. -/
def invoiceAloneWrong : ChangeSpec := { name := "invoiceAlone", fn := fun _ => fun
  | [d] => { results := [.lit (.bool false)], args := [d] }
  | _ => none }
def InvoiceAloneWrongFalsely : Prop := invoiceAloneRow.holds Try.pinned (OpenSpec.ofChange invoiceAloneWrong)

/-- 'octroilaw22.InvoiceParts': WHATEVER THE INPUT: true; the input reads as it did. -/
def invoicePartsSpec : ChangeSpec := { name := "invoiceParts", fn := fun _ => fun
  | [d] => { results := [.lit (.bool true)], args := [d] }
  | _ => none }
def invoicePartsRow : OpenClaim := { program := "ytlfkfajodnkkhaa", sum := "1d48d79b0a9f418d79d5c0346a6719e713a301a18a317aab449cc10a555e5b2f", func := "octroi/octroilaw22.InvoiceParts", spec := "invoiceParts", inPlace := ["math/bits.Add64"], unfollowed := true, recurses := true, named := ["math/bits.divideError", "math/bits.overflowError"], plainKeys := false, apart := false }
def InvoicePartsSaid : Prop := invoicePartsRow.holds Try.pinned (OpenSpec.ofChange invoicePartsSpec)

/-- ITS FALSE NEIGHBOUR: 'it returns false'. Refute it at one input. -/
def invoicePartsWrong : ChangeSpec := { name := "invoiceParts", fn := fun _ => fun
  | [d] => { results := [.lit (.bool false)], args := [d] }
  | _ => none }
def InvoicePartsWrongFalsely : Prop := invoicePartsRow.holds Try.pinned (OpenSpec.ofChange invoicePartsWrong)

/-- 'octroilaw22.InvoiceWhole': WHATEVER THE INPUT: true; the input reads as it did. -/
def invoiceWholeSpec : ChangeSpec := { name := "invoiceWhole", fn := fun _ => fun
  | [d] => { results := [.lit (.bool true)], args := [d] }
  | _ => none }
def invoiceWholeRow : OpenClaim := { program := "ytlfkfajodnkkhaa", sum := "1d48d79b0a9f418d79d5c0346a6719e713a301a18a317aab449cc10a555e5b2f", func := "octroi/octroilaw22.InvoiceWhole", spec := "invoiceWhole", inPlace := ["math/bits.Add64"], unfollowed := true, recurses := true, named := ["math/bits.divideError", "math/bits.overflowError"], plainKeys := false, apart := false }
def InvoiceWholeSaid : Prop := invoiceWholeRow.holds Try.pinned (OpenSpec.ofChange invoiceWholeSpec)

/-- ITS FALSE NEIGHBOUR: 'it returns false'. Refute it at one input. -/
def invoiceWholeWrong : ChangeSpec := { name := "invoiceWhole", fn := fun _ => fun
  | [d] => { results := [.lit (.bool false)], args := [d] }
  | _ => none }
def InvoiceWholeWrongFalsely : Prop := invoiceWholeRow.holds Try.pinned (OpenSpec.ofChange invoiceWholeWrong)

/- THE SECOND FORM. 'bulk': how many values and letters a reading holds, each counted each time it is reached (what is shared counts as often as it is met; a slice's spare places count too). A statement '..UptoSaid' is the law's where the arguments, and the package variables that the reading takes, are together of bulk at most 1048576: NARROWER than '..Said'. Prove '..Said' where nothing that the law and all that it calls make is longer than what came in: it says more and counts as full. Else prove '..UptoSaid'. A law counts once. -/
mutual
def uptoBulk {H : Type} : DataW H → Nat
  | .lit (.string bytes) => bytes.length + 1
  | .lit _ => 1
  | .nil => 1
  | .ptr d => uptoBulk d + 1
  | .slice elems spare => uptoBulkAll elems + uptoBulkAll spare + 1
  | .agg parts => uptoBulkAll parts + 1
  | .iface _ d => uptoBulk d + 1
  | .map entries => uptoBulkEntries entries + 1
  | .held _ => 1
def uptoBulkAll {H : Type} : List (DataW H) → Nat
  | [] => 0
  | d :: r => uptoBulk d + uptoBulkAll r
def uptoBulkEntries {H : Type} : List (Lit × DataW H) → Nat
  | [] => 0
  | x :: r => uptoBulkEntry x + uptoBulkEntries r
def uptoBulkEntry {H : Type} : Lit × DataW H → Nat
  | (.string bytes, d) => bytes.length + uptoBulk d + 1
  | (_, d) => uptoBulk d + 1
 end
def uptoSmall : (H : Type) → List (DataW H) → Bool := fun _ ds => decide (uptoBulkAll ds ≤ 1048576)
def OpenSpec.upto (s : _root_.Go.ChangeSpec) : _root_.Go.OpenSpec := { _root_.Go.OpenSpec.ofChange s with cond := some uptoSmall }

/-- 'octroilaw22.InvoiceAlone', WHERE WHAT IT READS IS OF BULK AT MOST 1048576: true; the input reads as it did. -/
def invoiceAloneUptoRow : OpenClaim := { program := "ytlfkfajodnkkhaa", sum := "1d48d79b0a9f418d79d5c0346a6719e713a301a18a317aab449cc10a555e5b2f", func := "octroi/octroilaw22.InvoiceAlone", spec := "invoiceAlone", inPlace := ["math/bits.Add64"], unfollowed := true, recurses := true, named := ["math/bits.divideError", "math/bits.overflowError"], plainKeys := false, apart := false, narrowed := true }
def InvoiceAloneUptoSaid : Prop := invoiceAloneUptoRow.holds Try.pinned (OpenSpec.upto invoiceAloneSpec)

/-- 'octroilaw22.InvoiceParts', WHERE WHAT IT READS IS OF BULK AT MOST 1048576: true; the input reads as it did. -/
def invoicePartsUptoRow : OpenClaim := { program := "ytlfkfajodnkkhaa", sum := "1d48d79b0a9f418d79d5c0346a6719e713a301a18a317aab449cc10a555e5b2f", func := "octroi/octroilaw22.InvoiceParts", spec := "invoiceParts", inPlace := ["math/bits.Add64"], unfollowed := true, recurses := true, named := ["math/bits.divideError", "math/bits.overflowError"], plainKeys := false, apart := false, narrowed := true }
def InvoicePartsUptoSaid : Prop := invoicePartsUptoRow.holds Try.pinned (OpenSpec.upto invoicePartsSpec)

/-- 'octroilaw22.InvoiceWhole', WHERE WHAT IT READS IS OF BULK AT MOST 1048576: true; the input reads as it did. -/
def invoiceWholeUptoRow : OpenClaim := { program := "ytlfkfajodnkkhaa", sum := "1d48d79b0a9f418d79d5c0346a6719e713a301a18a317aab449cc10a555e5b2f", func := "octroi/octroilaw22.InvoiceWhole", spec := "invoiceWhole", inPlace := ["math/bits.Add64"], unfollowed := true, recurses := true, named := ["math/bits.divideError", "math/bits.overflowError"], plainKeys := false, apart := false, narrowed := true }
def InvoiceWholeUptoSaid : Prop := invoiceWholeUptoRow.holds Try.pinned (OpenSpec.upto invoiceWholeSpec)

end Rows
end Go.Proofs.Ytlfkfajodnkkhaa
