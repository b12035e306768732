/-
  No cell of these rows narrows 'for every input' (looked for: loops, veiled, ifaces, maps, wideKeys, modest, calm, conditions, laid).
  DERIVED. THE GIVEN ROWS OF THIS SEAT. 6 by the template 'for every input the law returns true; each argument reads behind the call as it read before'; 0 by the template 'total and deterministic' (their statements: YtcheokphnhjomaaTotals.lean).
  GIVEN WITH THE SEED: the statements are not yours to turn. If you find one false, say at which input.
  Laid BY PROGRAM, IN A SANDBOX (cutbox-rows.mjs): the forced cells as the released guide's own fill.sh prints them over the translation 8254633a0baf8fcd… (all of the seat's roots in one cut). By AI agents, Wed Nov 11 2026. No macro, syntax, notation, axiom, sorry.
-/
import Derived.Test.YtcheokphnhjomaaChecked
import GoSem.Claim
import GoSem.ClaimJoined
import GoSem.ClaimMapViews
import Derived.JoinedTies
import Derived.KernelRfl
namespace Go.Proofs.Ytcheokphnhjomaa
/- THE CELL 'sum', in the pinned program and in every row, IS THE sha256 OF THE DUMP (.gsa) THAT YtcheokphnhjomaaProg.lean LOADS. Nothing in Lean hashes anything: it is a label: what it is worth is what the hold of that sum in a sandbox is worth. -/
noncomputable def Try.pinned : Pinned := { name := "ytcheokphnhjomaa", sum := "8254633a0baf8fcd9191b8c9531aaa3684adef11af483f86b00473a8dc92d4b8", checked := Try.checked }
namespace Rows
def none {H : Type} : Left H := { results := [], args := [] }

/-- 'octroilaw02.WideTurned': WHATEVER THE INPUT: true; the input reads as it did. -/
def wideTurnedSpec : ChangeSpec := { name := "wideTurned", fn := fun _ => fun
  | [d1, d2, d3] => { results := [.lit (.bool true)], args := [d1, d2, d3] }
  | _ => none }
def wideTurnedRow : OpenClaim := { program := "ytcheokphnhjomaa", sum := "8254633a0baf8fcd9191b8c9531aaa3684adef11af483f86b00473a8dc92d4b8", func := "octroi/octroilaw02.WideTurned", spec := "wideTurned", unfollowed := true, recurses := true, named := ["math/bits.divideError", "math/bits.overflowError"], apart := false }
def WideTurnedSaid : Prop := wideTurnedRow.holds Try.pinned (OpenSpec.ofChange wideTurnedSpec)

/-- ITS FALSE NEIGHBOUR: 'it returns false'. Refute it at one input. -/
def wideTurnedWrong : ChangeSpec := { name := "wideTurned", fn := fun _ => fun
  | [d1, d2, d3] => { results := [.lit (.bool false)], args := [d1, d2, d3] }
  | _ => none }
def WideTurnedWrongFalsely : Prop := wideTurnedRow.holds Try.pinned (OpenSpec.ofChange wideTurnedWrong)

/-- 'octroilaw02.WideNear': WHATEVER THE INPUT: true; the input reads as it did. -/
def wideNearSpec : ChangeSpec := { name := "wideNear", fn := fun _ => fun
  | [d1, d2, d3] => { results := [.lit (.bool true)], args := [d1, d2, d3] }
  | _ => none }
def wideNearRow : OpenClaim := { program := "ytcheokphnhjomaa", sum := "8254633a0baf8fcd9191b8c9531aaa3684adef11af483f86b00473a8dc92d4b8", func := "octroi/octroilaw02.WideNear", spec := "wideNear", unfollowed := true, recurses := true, named := ["math/bits.divideError", "math/bits.overflowError"], apart := false }
def WideNearSaid : Prop := wideNearRow.holds Try.pinned (OpenSpec.ofChange wideNearSpec)

/-- ITS FALSE NEIGHBOUR: 'it returns false'. Refute it at one input. -/
def wideNearWrong : ChangeSpec := { name := "wideNear", fn := fun _ => fun
  | [d1, d2, d3] => { results := [.lit (.bool false)], args := [d1, d2, d3] }
  | _ => none }
def WideNearWrongFalsely : Prop := wideNearRow.holds Try.pinned (OpenSpec.ofChange wideNearWrong)

/-- 'octroilaw02.WideInside': WHATEVER THE INPUT: true; the input reads as it did. -/
def wideInsideSpec : ChangeSpec := { name := "wideInside", fn := fun _ => fun
  | [d1, d2] => { results := [.lit (.bool true)], args := [d1, d2] }
  | _ => none }
def wideInsideRow : OpenClaim := { program := "ytcheokphnhjomaa", sum := "8254633a0baf8fcd9191b8c9531aaa3684adef11af483f86b00473a8dc92d4b8", func := "octroi/octroilaw02.WideInside", spec := "wideInside", unfollowed := true, recurses := true, named := ["math/bits.divideError", "math/bits.overflowError"], apart := false }
def WideInsideSaid : Prop := wideInsideRow.holds Try.pinned (OpenSpec.ofChange wideInsideSpec)

/-- ITS FALSE NEIGHBOUR: 'it returns false'. Refute it at one input. -/
def wideInsideWrong : ChangeSpec := { name := "wideInside", fn := fun _ => fun
  | [d1, d2] => { results := [.lit (.bool false)], args := [d1, d2] }
  | _ => none }
def WideInsideWrongFalsely : Prop := wideInsideRow.holds Try.pinned (OpenSpec.ofChange wideInsideWrong)

/-- 'octroilaw02.WideTaxes': WHATEVER THE INPUT: true; the input reads as it did. -/
def wideTaxesSpec : ChangeSpec := { name := "wideTaxes", fn := fun _ => fun
  | [d1, d2, d3] => { results := [.lit (.bool true)], args := [d1, d2, d3] }
  | _ => none }
def wideTaxesRow : OpenClaim := { program := "ytcheokphnhjomaa", sum := "8254633a0baf8fcd9191b8c9531aaa3684adef11af483f86b00473a8dc92d4b8", func := "octroi/octroilaw02.WideTaxes", spec := "wideTaxes", unfollowed := true, recurses := true, named := ["math/bits.divideError", "math/bits.overflowError"], apart := false }
def WideTaxesSaid : Prop := wideTaxesRow.holds Try.pinned (OpenSpec.ofChange wideTaxesSpec)

/-- ITS FALSE NEIGHBOUR: 'it returns false'. Refute it at one input. -/
def wideTaxesWrong : ChangeSpec := { name := "wideTaxes", fn := fun _ => fun
  | [d1, d2, d3] => { results := [.lit (.bool false)], args := [d1, d2, d3] }
  | _ => none }
def WideTaxesWrongFalsely : Prop := wideTaxesRow.holds Try.pinned (OpenSpec.ofChange wideTaxesWrong)

/-- 'octroilaw02.WideDivides': WHATEVER THE INPUT: true; the input reads as it did. -/
def wideDividesSpec : ChangeSpec := { name := "wideDivides", fn := fun _ => fun
  | [d1, d2, d3] => { results := [.lit (.bool true)], args := [d1, d2, d3] }
  | _ => none }
def wideDividesRow : OpenClaim := { program := "ytcheokphnhjomaa", sum := "8254633a0baf8fcd9191b8c9531aaa3684adef11af483f86b00473a8dc92d4b8", func := "octroi/octroilaw02.WideDivides", spec := "wideDivides", unfollowed := true, recurses := true, named := ["math/bits.divideError", "math/bits.overflowError"], apart := false }
def WideDividesSaid : Prop := wideDividesRow.holds Try.pinned (OpenSpec.ofChange wideDividesSpec)

/-- ITS FALSE NEIGHBOUR: 'it returns false'. Refute it at one input. -/
def wideDividesWrong : ChangeSpec := { name := "wideDivides", fn := fun _ => fun
  | [d1, d2, d3] => { results := [.lit (.bool false)], args := [d1, d2, d3] }
  | _ => none }
def WideDividesWrongFalsely : Prop := wideDividesRow.holds Try.pinned (OpenSpec.ofChange wideDividesWrong)

/-- 'octroilaw02.WideLess': WHATEVER THE INPUT: true; the input reads as it did. -/
def wideLessSpec : ChangeSpec := { name := "wideLess", fn := fun _ => fun
  | [d] => { results := [.lit (.bool true)], args := [d] }
  | _ => none }
def wideLessRow : OpenClaim := { program := "ytcheokphnhjomaa", sum := "8254633a0baf8fcd9191b8c9531aaa3684adef11af483f86b00473a8dc92d4b8", func := "octroi/octroilaw02.WideLess", spec := "wideLess", unfollowed := true, recurses := true, named := ["math/bits.divideError", "math/bits.overflowError"], apart := false }
def WideLessSaid : Prop := wideLessRow.holds Try.pinned (OpenSpec.ofChange wideLessSpec)

/-- ITS FALSE NEIGHBOUR: 'it returns false'. Refute it at one input. -/
def wideLessWrong : ChangeSpec := { name := "wideLess", fn := fun _ => fun
  | [d] => { results := [.lit (.bool false)], args := [d] }
  | _ => none }
def WideLessWrongFalsely : Prop := wideLessRow.holds Try.pinned (OpenSpec.ofChange wideLessWrong)

/- THE SECOND FORM. 'bulk': how many values and letters a reading holds, each counted each time it is reached (what is shared counts as often as it is met; a slice's spare places count too). A statement '..UptoSaid' is the law's where the arguments, and the package variables that the reading takes, are together of bulk at most 1048576: NARROWER than '..Said'. Prove '..Said' where nothing that the law and all that it calls make is longer than what came in: it says more and counts as full. Else prove '..UptoSaid'. A law counts once. -/
mutual
def uptoBulk {H : Type} : DataW H → Nat
  | .lit (.string bytes) => bytes.length + 1
  | .lit _ => 1
  | .nil => 1
  | .ptr d => uptoBulk d + 1
  | .slice elems spare => uptoBulkAll elems + uptoBulkAll spare + 1
  | .agg parts => uptoBulkAll parts + 1
  | .iface _ d => uptoBulk d + 1
  | .map entries => uptoBulkEntries entries + 1
  | .held _ => 1
def uptoBulkAll {H : Type} : List (DataW H) → Nat
  | [] => 0
  | d :: r => uptoBulk d + uptoBulkAll r
def uptoBulkEntries {H : Type} : List (Lit × DataW H) → Nat
  | [] => 0
  | x :: r => uptoBulkEntry x + uptoBulkEntries r
def uptoBulkEntry {H : Type} : Lit × DataW H → Nat
  | (.string bytes, d) => bytes.length + uptoBulk d + 1
  | (_, d) => uptoBulk d + 1
 end
def uptoSmall : (H : Type) → List (DataW H) → Bool := fun _ ds => decide (uptoBulkAll ds ≤ 1048576)
def OpenSpec.upto (s : _root_.Go.ChangeSpec) : _root_.Go.OpenSpec := { _root_.Go.OpenSpec.ofChange s with cond := some uptoSmall }

/-- 'octroilaw02.WideTurned', WHERE WHAT IT READS IS OF BULK AT MOST 1048576: true; the input reads as it did. -/
def wideTurnedUptoRow : OpenClaim := { program := "ytcheokphnhjomaa", sum := "8254633a0baf8fcd9191b8c9531aaa3684adef11af483f86b00473a8dc92d4b8", func := "octroi/octroilaw02.WideTurned", spec := "wideTurned", unfollowed := true, recurses := true, named := ["math/bits.divideError", "math/bits.overflowError"], apart := false, narrowed := true }
def WideTurnedUptoSaid : Prop := wideTurnedUptoRow.holds Try.pinned (OpenSpec.upto wideTurnedSpec)

/-- 'octroilaw02.WideNear', WHERE WHAT IT READS IS OF BULK AT MOST 1048576: true; the input reads as it did. -/
def wideNearUptoRow : OpenClaim := { program := "ytcheokphnhjomaa", sum := "8254633a0baf8fcd9191b8c9531aaa3684adef11af483f86b00473a8dc92d4b8", func := "octroi/octroilaw02.WideNear", spec := "wideNear", unfollowed := true, recurses := true, named := ["math/bits.divideError", "math/bits.overflowError"], apart := false, narrowed := true }
def WideNearUptoSaid : Prop := wideNearUptoRow.holds Try.pinned (OpenSpec.upto wideNearSpec)

/-- 'octroilaw02.WideInside', WHERE WHAT IT READS IS OF BULK AT MOST 1048576: true; the input reads as it did. -/
def wideInsideUptoRow : OpenClaim := { program := "ytcheokphnhjomaa", sum := "8254633a0baf8fcd9191b8c9531aaa3684adef11af483f86b00473a8dc92d4b8", func := "octroi/octroilaw02.WideInside", spec := "wideInside", unfollowed := true, recurses := true, named := ["math/bits.divideError", "math/bits.overflowError"], apart := false, narrowed := true }
def WideInsideUptoSaid : Prop := wideInsideUptoRow.holds Try.pinned (OpenSpec.upto wideInsideSpec)

/-- 'octroilaw02.WideTaxes', WHERE WHAT IT READS IS OF BULK AT MOST 1048576: true; the input reads as it did. -/
def wideTaxesUptoRow : OpenClaim := { program := "ytcheokphnhjomaa", sum := "8254633a0baf8fcd9191b8c9531aaa3684adef11af483f86b00473a8dc92d4b8", func := "octroi/octroilaw02.WideTaxes", spec := "wideTaxes", unfollowed := true, recurses := true, named := ["math/bits.divideError", "math/bits.overflowError"], apart := false, narrowed := true }
def WideTaxesUptoSaid : Prop := wideTaxesUptoRow.holds Try.pinned (OpenSpec.upto wideTaxesSpec)

/-- 'octroilaw02.WideDivides', WHERE WHAT IT READS IS OF BULK AT MOST 1048576: true; the input reads as it did. -/
def wideDividesUptoRow : OpenClaim := { program := "ytcheokphnhjomaa", sum := "8254633a0baf8fcd9191b8c9531aaa3684adef11af483f86b00473a8dc92d4b8", func := "octroi/octroilaw02.WideDivides", spec := "wideDivides", unfollowed := true, recurses := true, named := ["math/bits.divideError", "math/bits.overflowError"], apart := false, narrowed := true }
def WideDividesUptoSaid : Prop := wideDividesUptoRow.holds Try.pinned (OpenSpec.upto wideDividesSpec)

/-- 'octroilaw02.WideLess', WHERE WHAT IT READS IS OF BULK AT MOST 1048576: true; the input reads as it did. -/
def wideLessUptoRow : OpenClaim := { program := "ytcheokphnhjomaa", sum := "8254633a0baf8fcd9191b8c9531aaa3684adef11af483f86b00473a8dc92d4b8", func := "octroi/octroilaw02.WideLess", spec := "wideLess", unfollowed := true, recurses := true, named := ["math/bits.divideError", "math/bits.overflowError"], apart := false, narrowed := true }
def WideLessUptoSaid : Prop := wideLessUptoRow.holds Try.pinned (OpenSpec.upto wideLessSpec)

end Rows
end Go.Proofs.Ytcheokphnhjomaa
