/-
  No cell of these rows narrows 'for every input' (looked for: loops, veiled, ifaces, maps, wideKeys, modest, calm, conditions, laid).
  DERIVED. THE GIVEN ROWS OF THIS SEAT. 3 by the template 'for every input the law returns true; each argument reads behind the call as it read before'; 0 by the template 'total and deterministic' (their statements: YtbmapmigiokbcaaTotals.lean).
  GIVEN WITH THE SEED: the statements are not yours to turn. If you find one false, say at which input.
  Laid BY PROGRAM, IN A SANDBOX (cutbox-rows.mjs): the forced cells as the released guide's own fill.sh prints them over the translation ad22744085cf7c56… (all of the seat's roots in one cut). By AI agents, Wed Nov 11 2026. No macro, syntax, notation, axiom, sorry.
-/
import Derived.Test.YtbmapmigiokbcaaChecked
import GoSem.Claim
import GoSem.ClaimJoined
import GoSem.ClaimMapViews
import Derived.JoinedTies
import Derived.KernelRfl
namespace Go.Proofs.Ytbmapmigiokbcaa
/- THE CELL 'sum', in the pinned program and in every row, IS THE sha256 OF THE DUMP (.gsa) THAT YtbmapmigiokbcaaProg.lean LOADS. Nothing in Lean hashes anything: it is a label: what it is worth is what the hold of that sum in a sandbox is worth. -/
noncomputable def Try.pinned : Pinned := { name := "ytbmapmigiokbcaa", sum := "ad22744085cf7c5633ae232ca629b6a2e00c64387cd4aa3a4a69948f8f6c97a7", checked := Try.checked }
namespace Rows
def none {H : Type} : Left H := { results := [], args := [] }

/-- 'octroilaw13.TimelineMeets': WHATEVER THE INPUT: true; the input reads as it did. -/
def timelineMeetsSpec : ChangeSpec := { name := "timelineMeets", fn := fun _ => fun
  | [d1, d2] => { results := [.lit (.bool true)], args := [d1, d2] }
  | _ => none }
def timelineMeetsRow : OpenClaim := { program := "ytbmapmigiokbcaa", sum := "ad22744085cf7c5633ae232ca629b6a2e00c64387cd4aa3a4a69948f8f6c97a7", func := "octroi/octroilaw13.TimelineMeets", spec := "timelineMeets", inPlace := ["slices.overlaps[octroi/timeline.held[int]]"], unfollowed := true, recurses := true, apart := false }
def TimelineMeetsSaid : Prop := timelineMeetsRow.holds Try.pinned (OpenSpec.ofChange timelineMeetsSpec)

/-- ITS FALSE NEIGHBOUR: 'it returns false'. Refute it at one input. -/
def timelineMeetsWrong : ChangeSpec := { name := "timelineMeets", fn := fun _ => fun
  | [d1, d2] => { results := [.lit (.bool false)], args := [d1, d2] }
  | _ => none }
def TimelineMeetsWrongFalsely : Prop := timelineMeetsRow.holds Try.pinned (OpenSpec.ofChange timelineMeetsWrong)

/-- 'octroilaw13.TimelineOrder': WHATEVER THE INPUT: true; the input reads as it did. -/
def timelineOrderSpec : ChangeSpec := { name := "timelineOrder", fn := fun _ => fun
  | [d1, d2, d3] => { results := [.lit (.bool true)], args := [d1, d2, d3] }
  | _ => none }
def timelineOrderRow : OpenClaim := { program := "ytbmapmigiokbcaa", sum := "ad22744085cf7c5633ae232ca629b6a2e00c64387cd4aa3a4a69948f8f6c97a7", func := "octroi/octroilaw13.TimelineOrder", spec := "timelineOrder", inPlace := ["slices.overlaps[octroi/timeline.held[int]]"], unfollowed := true, recurses := true, apart := false }
def TimelineOrderSaid : Prop := timelineOrderRow.holds Try.pinned (OpenSpec.ofChange timelineOrderSpec)

/-- ITS FALSE NEIGHBOUR: 'it returns false'. Refute it at one input. -/
def timelineOrderWrong : ChangeSpec := { name := "timelineOrder", fn := fun _ => fun
  | [d1, d2, d3] => { results := [.lit (.bool false)], args := [d1, d2, d3] }
  | _ => none }
def TimelineOrderWrongFalsely : Prop := timelineOrderRow.holds Try.pinned (OpenSpec.ofChange timelineOrderWrong)

/-- 'octroilaw13.TimelineSets': WHATEVER THE INPUT: true; the input reads as it did. -/
def timelineSetsSpec : ChangeSpec := { name := "timelineSets", fn := fun _ => fun
  | [d1, d2, d3] => { results := [.lit (.bool true)], args := [d1, d2, d3] }
  | _ => none }
def timelineSetsRow : OpenClaim := { program := "ytbmapmigiokbcaa", sum := "ad22744085cf7c5633ae232ca629b6a2e00c64387cd4aa3a4a69948f8f6c97a7", func := "octroi/octroilaw13.TimelineSets", spec := "timelineSets", inPlace := ["slices.overlaps[octroi/timeline.held[int]]"], unfollowed := true, recurses := true, apart := false }
def TimelineSetsSaid : Prop := timelineSetsRow.holds Try.pinned (OpenSpec.ofChange timelineSetsSpec)

/-- ITS FALSE NEIGHBOUR: 'it returns false'. Refute it at one input. -/
def timelineSetsWrong : ChangeSpec := { name := "timelineSets", fn := fun _ => fun
  | [d1, d2, d3] => { results := [.lit (.bool false)], args := [d1, d2, d3] }
  | _ => none }
def TimelineSetsWrongFalsely : Prop := timelineSetsRow.holds Try.pinned (OpenSpec.ofChange timelineSetsWrong)

/- THE SECOND FORM. 'bulk': how many values and letters a reading holds, each counted each time it is reached (what is shared counts as often as it is met; a slice's spare places count too). A statement '..UptoSaid' is the law's where the arguments, and the package variables that the reading takes, are together of bulk at most 1048576: NARROWER than '..Said'. Prove '..Said' where nothing that the law and all that it calls make is longer than what came in: it says more and counts as full. Else prove '..UptoSaid'. A law counts once. -/
mutual
def uptoBulk {H : Type} : DataW H → Nat
  | .lit (.string bytes) => bytes.length + 1
  | .lit _ => 1
  | .nil => 1
  | .ptr d => uptoBulk d + 1
  | .slice elems spare => uptoBulkAll elems + uptoBulkAll spare + 1
  | .agg parts => uptoBulkAll parts + 1
  | .iface _ d => uptoBulk d + 1
  | .map entries => uptoBulkEntries entries + 1
  | .held _ => 1
def uptoBulkAll {H : Type} : List (DataW H) → Nat
  | [] => 0
  | d :: r => uptoBulk d + uptoBulkAll r
def uptoBulkEntries {H : Type} : List (Lit × DataW H) → Nat
  | [] => 0
  | x :: r => uptoBulkEntry x + uptoBulkEntries r
def uptoBulkEntry {H : Type} : Lit × DataW H → Nat
  | (.string bytes, d) => bytes.length + uptoBulk d + 1
  | (_, d) => uptoBulk d + 1
 end
def uptoSmall : (H : Type) → List (DataW H) → Bool := fun _ ds => decide (uptoBulkAll ds ≤ 1048576)
def OpenSpec.upto (s : _root_.Go.ChangeSpec) : _root_.Go.OpenSpec := { _root_.Go.OpenSpec.ofChange s with cond := some uptoSmall }

/-- 'octroilaw13.TimelineMeets', WHERE WHAT IT READS IS OF BULK AT MOST 1048576: true; the input reads as it did. -/
def timelineMeetsUptoRow : OpenClaim := { program := "ytbmapmigiokbcaa", sum := "ad22744085cf7c5633ae232ca629b6a2e00c64387cd4aa3a4a69948f8f6c97a7", func := "octroi/octroilaw13.TimelineMeets", spec := "timelineMeets", inPlace := ["slices.overlaps[octroi/timeline.held[int]]"], unfollowed := true, recurses := true, apart := false, narrowed := true }
def TimelineMeetsUptoSaid : Prop := timelineMeetsUptoRow.holds Try.pinned (OpenSpec.upto timelineMeetsSpec)

/-- 'octroilaw13.TimelineOrder', WHERE WHAT IT READS IS OF BULK AT MOST 1048576: true; the input reads as it did. -/
def timelineOrderUptoRow : OpenClaim := { program := "ytbmapmigiokbcaa", sum := "ad22744085cf7c5633ae232ca629b6a2e00c64387cd4aa3a4a69948f8f6c97a7", func := "octroi/octroilaw13.TimelineOrder", spec := "timelineOrder", inPlace := ["slices.overlaps[octroi/timeline.held[int]]"], unfollowed := true, recurses := true, apart := false, narrowed := true }
def TimelineOrderUptoSaid : Prop := timelineOrderUptoRow.holds Try.pinned (OpenSpec.upto timelineOrderSpec)

/-- 'octroilaw13.TimelineSets', WHERE WHAT IT READS IS OF BULK AT MOST 1048576: true; the input reads as it did. -/
def timelineSetsUptoRow : OpenClaim := { program := "ytbmapmigiokbcaa", sum := "ad22744085cf7c5633ae232ca629b6a2e00c64387cd4aa3a4a69948f8f6c97a7", func := "octroi/octroilaw13.TimelineSets", spec := "timelineSets", inPlace := ["slices.overlaps[octroi/timeline.held[int]]"], unfollowed := true, recurses := true, apart := false, narrowed := true }
def TimelineSetsUptoSaid : Prop := timelineSetsUptoRow.holds Try.pinned (OpenSpec.upto timelineSetsSpec)

end Rows
end Go.Proofs.Ytbmapmigiokbcaa
