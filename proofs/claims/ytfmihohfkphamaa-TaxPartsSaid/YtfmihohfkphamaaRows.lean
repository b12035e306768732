/-
  No cell of these rows narrows 'for every input' (looked for: loops, veiled, ifaces, maps, wideKeys, modest, calm, conditions, laid).
  DERIVED. THE GIVEN ROWS OF THIS SEAT. 4 by the template 'for every input the law returns true; each argument reads behind the call as it read before'; 0 by the template 'total and deterministic' (their statements: YtfmihohfkphamaaTotals.lean).
  GIVEN WITH THE SEED: the statements are not yours to turn. If you find one false, say at which input.
  Laid BY PROGRAM, IN A SANDBOX (cutbox-rows.mjs): the forced cells as the released guide's own fill.sh prints them over the translation 12896ca8f9ec4679… (all of the seat's roots in one cut). By AI agents, Wed Nov 11 2026. No macro, syntax, notation, axiom, sorry.
-/
import Derived.Test.YtfmihohfkphamaaChecked
import GoSem.Claim
import GoSem.ClaimJoined
import GoSem.ClaimMapViews
import Derived.JoinedTies
import Derived.KernelRfl
namespace Go.Proofs.Ytfmihohfkphamaa
/- THE CELL 'sum', in the pinned program and in every row, IS THE sha256 OF THE DUMP (.gsa) THAT YtfmihohfkphamaaProg.lean LOADS. Nothing in Lean hashes anything: it is a label: what it is worth is what the hold of that sum in a sandbox is worth. -/
noncomputable def Try.pinned : Pinned := { name := "ytfmihohfkphamaa", sum := "12896ca8f9ec4679eb792921fa0fcc67e40d23ffdb556e1f0b2cef0936ef3c02", checked := Try.checked }
namespace Rows
def none {H : Type} : Left H := { results := [], args := [] }

/-- 'octroilaw21.TaxWhole': WHATEVER THE INPUT: true; the input reads as it did. -/
def taxWholeSpec : ChangeSpec := { name := "taxWhole", fn := fun _ => fun
  | [d1, d2, d3] => { results := [.lit (.bool true)], args := [d1, d2, d3] }
  | _ => none }
def taxWholeRow : OpenClaim := { program := "ytfmihohfkphamaa", sum := "12896ca8f9ec4679eb792921fa0fcc67e40d23ffdb556e1f0b2cef0936ef3c02", func := "octroi/octroilaw21.TaxWhole", spec := "taxWhole", inPlace := ["math/bits.Add64"], unfollowed := true, recurses := true, named := ["math/bits.divideError", "math/bits.overflowError"], plainKeys := false, apart := false }
def TaxWholeSaid : Prop := taxWholeRow.holds Try.pinned (OpenSpec.ofChange taxWholeSpec)

/-- ITS FALSE NEIGHBOUR: 'it returns false'. Refute it at one input. -/
def taxWholeWrong : ChangeSpec := { name := "taxWhole", fn := fun _ => fun
  | [d1, d2, d3] => { results := [.lit (.bool false)], args := [d1, d2, d3] }
  | _ => none }
def TaxWholeWrongFalsely : Prop := taxWholeRow.holds Try.pinned (OpenSpec.ofChange taxWholeWrong)

/-- 'octroilaw21.TaxMore': WHATEVER THE INPUT: true; the input reads as it did. -/
def taxMoreSpec : ChangeSpec := { name := "taxMore", fn := fun _ => fun
  | [d1, d2, d3, d4, d5] => { results := [.lit (.bool true)], args := [d1, d2, d3, d4, d5] }
  | _ => none }
def taxMoreRow : OpenClaim := { program := "ytfmihohfkphamaa", sum := "12896ca8f9ec4679eb792921fa0fcc67e40d23ffdb556e1f0b2cef0936ef3c02", func := "octroi/octroilaw21.TaxMore", spec := "taxMore", inPlace := ["math/bits.Add64"], unfollowed := true, recurses := true, named := ["math/bits.divideError", "math/bits.overflowError"], plainKeys := false, apart := false }
def TaxMoreSaid : Prop := taxMoreRow.holds Try.pinned (OpenSpec.ofChange taxMoreSpec)

/-- ITS FALSE NEIGHBOUR: 'it returns false'. Refute it at one input. -/
def taxMoreWrong : ChangeSpec := { name := "taxMore", fn := fun _ => fun
  | [d1, d2, d3, d4, d5] => { results := [.lit (.bool false)], args := [d1, d2, d3, d4, d5] }
  | _ => none }
def TaxMoreWrongFalsely : Prop := taxMoreRow.holds Try.pinned (OpenSpec.ofChange taxMoreWrong)

/-- 'octroilaw21.TaxParts': WHATEVER THE INPUT: true; the input reads as it did. -/
def taxPartsSpec : ChangeSpec := { name := "taxParts", fn := fun _ => fun
  | [d1, d2, d3, d4] => { results := [.lit (.bool true)], args := [d1, d2, d3, d4] }
  | _ => none }
def taxPartsRow : OpenClaim := { program := "ytfmihohfkphamaa", sum := "12896ca8f9ec4679eb792921fa0fcc67e40d23ffdb556e1f0b2cef0936ef3c02", func := "octroi/octroilaw21.TaxParts", spec := "taxParts", inPlace := ["math/bits.Add64"], unfollowed := true, recurses := true, named := ["math/bits.divideError", "math/bits.overflowError"], plainKeys := false, apart := false }
def TaxPartsSaid : Prop := taxPartsRow.holds Try.pinned (OpenSpec.ofChange taxPartsSpec)

/-- ITS FALSE NEIGHBOUR: 'it returns false'. Refute it at one input. -/
def taxPartsWrong : ChangeSpec := { name := "taxParts", fn := fun _ => fun
  | [d1, d2, d3, d4] => { results := [.lit (.bool false)], args := [d1, d2, d3, d4] }
  | _ => none }
def TaxPartsWrongFalsely : Prop := taxPartsRow.holds Try.pinned (OpenSpec.ofChange taxPartsWrong)

/-- 'octroilaw21.TaxOf': WHATEVER THE INPUT: true; the input reads as it did. -/
def taxOfSpec : ChangeSpec := { name := "taxOf", fn := fun _ => fun
  | [d1, d2] => { results := [.lit (.bool true)], args := [d1, d2] }
  | _ => none }
def taxOfRow : OpenClaim := { program := "ytfmihohfkphamaa", sum := "12896ca8f9ec4679eb792921fa0fcc67e40d23ffdb556e1f0b2cef0936ef3c02", func := "octroi/octroilaw21.TaxOf", spec := "taxOf", inPlace := ["math/bits.Add64", "slices.overlaps[octroi/timeline.held[int]]"], unfollowed := true, recurses := true, named := ["math/bits.divideError", "math/bits.overflowError"], plainKeys := false, apart := false }
def TaxOfSaid : Prop := taxOfRow.holds Try.pinned (OpenSpec.ofChange taxOfSpec)

/-- ITS FALSE NEIGHBOUR: 'it returns false'. Refute it at one input. -/
def taxOfWrong : ChangeSpec := { name := "taxOf", fn := fun _ => fun
  | [d1, d2] => { results := [.lit (.bool false)], args := [d1, d2] }
  | _ => none }
def TaxOfWrongFalsely : Prop := taxOfRow.holds Try.pinned (OpenSpec.ofChange taxOfWrong)

/- THE SECOND FORM. 'bulk': how many values and letters a reading holds, each counted each time it is reached (what is shared counts as often as it is met; a slice's spare places count too). A statement '..UptoSaid' is the law's where the arguments, and the package variables that the reading takes, are together of bulk at most 1048576: NARROWER than '..Said'. Prove '..Said' where nothing that the law and all that it calls make is longer than what came in: it says more and counts as full. Else prove '..UptoSaid'. A law counts once. -/
mutual
def uptoBulk {H : Type} : DataW H → Nat
  | .lit (.string bytes) => bytes.length + 1
  | .lit _ => 1
  | .nil => 1
  | .ptr d => uptoBulk d + 1
  | .slice elems spare => uptoBulkAll elems + uptoBulkAll spare + 1
  | .agg parts => uptoBulkAll parts + 1
  | .iface _ d => uptoBulk d + 1
  | .map entries => uptoBulkEntries entries + 1
  | .held _ => 1
def uptoBulkAll {H : Type} : List (DataW H) → Nat
  | [] => 0
  | d :: r => uptoBulk d + uptoBulkAll r
def uptoBulkEntries {H : Type} : List (Lit × DataW H) → Nat
  | [] => 0
  | x :: r => uptoBulkEntry x + uptoBulkEntries r
def uptoBulkEntry {H : Type} : Lit × DataW H → Nat
  | (.string bytes, d) => bytes.length + uptoBulk d + 1
  | (_, d) => uptoBulk d + 1
 end
def uptoSmall : (H : Type) → List (DataW H) → Bool := fun _ ds => decide (uptoBulkAll ds ≤ 1048576)
def OpenSpec.upto (s : _root_.Go.ChangeSpec) : _root_.Go.OpenSpec := { _root_.Go.OpenSpec.ofChange s with cond := some uptoSmall }

/-- 'octroilaw21.TaxWhole', WHERE WHAT IT READS IS OF BULK AT MOST 1048576: true; the input reads as it did. -/
def taxWholeUptoRow : OpenClaim := { program := "ytfmihohfkphamaa", sum := "12896ca8f9ec4679eb792921fa0fcc67e40d23ffdb556e1f0b2cef0936ef3c02", func := "octroi/octroilaw21.TaxWhole", spec := "taxWhole", inPlace := ["math/bits.Add64"], unfollowed := true, recurses := true, named := ["math/bits.divideError", "math/bits.overflowError"], plainKeys := false, apart := false, narrowed := true }
def TaxWholeUptoSaid : Prop := taxWholeUptoRow.holds Try.pinned (OpenSpec.upto taxWholeSpec)

/-- 'octroilaw21.TaxMore', WHERE WHAT IT READS IS OF BULK AT MOST 1048576: true; the input reads as it did. -/
def taxMoreUptoRow : OpenClaim := { program := "ytfmihohfkphamaa", sum := "12896ca8f9ec4679eb792921fa0fcc67e40d23ffdb556e1f0b2cef0936ef3c02", func := "octroi/octroilaw21.TaxMore", spec := "taxMore", inPlace := ["math/bits.Add64"], unfollowed := true, recurses := true, named := ["math/bits.divideError", "math/bits.overflowError"], plainKeys := false, apart := false, narrowed := true }
def TaxMoreUptoSaid : Prop := taxMoreUptoRow.holds Try.pinned (OpenSpec.upto taxMoreSpec)

/-- 'octroilaw21.TaxParts', WHERE WHAT IT READS IS OF BULK AT MOST 1048576: true; the input reads as it did. -/
def taxPartsUptoRow : OpenClaim := { program := "ytfmihohfkphamaa", sum := "12896ca8f9ec4679eb792921fa0fcc67e40d23ffdb556e1f0b2cef0936ef3c02", func := "octroi/octroilaw21.TaxParts", spec := "taxParts", inPlace := ["math/bits.Add64"], unfollowed := true, recurses := true, named := ["math/bits.divideError", "math/bits.overflowError"], plainKeys := false, apart := false, narrowed := true }
def TaxPartsUptoSaid : Prop := taxPartsUptoRow.holds Try.pinned (OpenSpec.upto taxPartsSpec)

/-- 'octroilaw21.TaxOf', WHERE WHAT IT READS IS OF BULK AT MOST 1048576: true; the input reads as it did. -/
def taxOfUptoRow : OpenClaim := { program := "ytfmihohfkphamaa", sum := "12896ca8f9ec4679eb792921fa0fcc67e40d23ffdb556e1f0b2cef0936ef3c02", func := "octroi/octroilaw21.TaxOf", spec := "taxOf", inPlace := ["math/bits.Add64", "slices.overlaps[octroi/timeline.held[int]]"], unfollowed := true, recurses := true, named := ["math/bits.divideError", "math/bits.overflowError"], plainKeys := false, apart := false, narrowed := true }
def TaxOfUptoSaid : Prop := taxOfUptoRow.holds Try.pinned (OpenSpec.upto taxOfSpec)

end Rows
end Go.Proofs.Ytfmihohfkphamaa
