/-
  No cell of these rows narrows 'for every input' (looked for: loops, veiled, ifaces, maps, wideKeys, modest, calm, conditions, laid).
  DERIVED. THE GIVEN ROWS OF THIS SEAT. 3 by the template 'for every input the law returns true; each argument reads behind the call as it read before'; 0 by the template 'total and deterministic' (their statements: YtogmjkmnknaieaaTotals.lean).
  GIVEN WITH THE SEED: the statements are not yours to turn. If you find one false, say at which input.
  Laid BY PROGRAM, IN A SANDBOX (cutbox-rows.mjs): the forced cells as the released guide's own fill.sh prints them over the translation 739c79076686821b… (all of the seat's roots in one cut). By AI agents, Wed Nov 11 2026. No macro, syntax, notation, axiom, sorry.
-/
import Derived.Test.YtogmjkmnknaieaaChecked
import GoSem.Claim
import GoSem.ClaimJoined
import GoSem.ClaimMapViews
import Derived.JoinedTies
import Derived.KernelRfl
namespace Go.Proofs.Ytogmjkmnknaieaa
/- THE CELL 'sum', in the pinned program and in every row, IS THE sha256 OF THE DUMP (.gsa) THAT YtogmjkmnknaieaaProg.lean LOADS. Nothing in Lean hashes anything: it is a label: what it is worth is what the hold of that sum in a sandbox is worth. -/
noncomputable def Try.pinned : Pinned := { name := "ytogmjkmnknaieaa", sum := "739c79076686821b928fe6f2bc3dccc19bd8ff8722b1eb5dd6c5416fab66c30d", checked := Try.checked }
namespace Rows
def none {H : Type} : Left H := { results := [], args := [] }

/-- 'octroilaw16.FxOwn': WHATEVER THE INPUT: true; the input reads as it did. -/
def fxOwnSpec : ChangeSpec := { name := "fxOwn", fn := fun _ => fun
  | [d1, d2, d3] => { results := [.lit (.bool true)], args := [d1, d2, d3] }
  | _ => none }
def fxOwnRow : OpenClaim := { program := "ytogmjkmnknaieaa", sum := "739c79076686821b928fe6f2bc3dccc19bd8ff8722b1eb5dd6c5416fab66c30d", func := "octroi/octroilaw16.FxOwn", spec := "fxOwn", unfollowed := true, recurses := true, named := ["math/bits.divideError", "math/bits.overflowError"], plainKeys := false, apart := false }
def FxOwnSaid : Prop := fxOwnRow.holds Try.pinned (OpenSpec.ofChange fxOwnSpec)

/-- ITS FALSE NEIGHBOUR: 'it returns false'. Refute it at one input. -/
def fxOwnWrong : ChangeSpec := { name := "fxOwn", fn := fun _ => fun
  | [d1, d2, d3] => { results := [.lit (.bool false)], args := [d1, d2, d3] }
  | _ => none }
def FxOwnWrongFalsely : Prop := fxOwnRow.holds Try.pinned (OpenSpec.ofChange fxOwnWrong)

/-- 'octroilaw16.FxSets': WHATEVER THE INPUT: true; the input reads as it did. -/
def fxSetsSpec : ChangeSpec := { name := "fxSets", fn := fun _ => fun
  | [d1, d2, d3, d4] => { results := [.lit (.bool true)], args := [d1, d2, d3, d4] }
  | _ => none }
def fxSetsRow : OpenClaim := { program := "ytogmjkmnknaieaa", sum := "739c79076686821b928fe6f2bc3dccc19bd8ff8722b1eb5dd6c5416fab66c30d", func := "octroi/octroilaw16.FxSets", spec := "fxSets", unfollowed := true, recurses := true, named := ["math/bits.divideError", "math/bits.overflowError"], plainKeys := false, apart := false }
def FxSetsSaid : Prop := fxSetsRow.holds Try.pinned (OpenSpec.ofChange fxSetsSpec)

/-- ITS FALSE NEIGHBOUR: 'it returns false'. Refute it at one input. -/
def fxSetsWrong : ChangeSpec := { name := "fxSets", fn := fun _ => fun
  | [d1, d2, d3, d4] => { results := [.lit (.bool false)], args := [d1, d2, d3, d4] }
  | _ => none }
def FxSetsWrongFalsely : Prop := fxSetsRow.holds Try.pinned (OpenSpec.ofChange fxSetsWrong)

/-- 'octroilaw16.FxNobody': WHATEVER THE INPUT: true; the input reads as it did. -/
def fxNobodySpec : ChangeSpec := { name := "fxNobody", fn := fun _ => fun
  | [d1, d2, d3] => { results := [.lit (.bool true)], args := [d1, d2, d3] }
  | _ => none }
def fxNobodyRow : OpenClaim := { program := "ytogmjkmnknaieaa", sum := "739c79076686821b928fe6f2bc3dccc19bd8ff8722b1eb5dd6c5416fab66c30d", func := "octroi/octroilaw16.FxNobody", spec := "fxNobody", unfollowed := true, recurses := true, named := ["math/bits.divideError", "math/bits.overflowError"], plainKeys := false, apart := false }
def FxNobodySaid : Prop := fxNobodyRow.holds Try.pinned (OpenSpec.ofChange fxNobodySpec)

/-- ITS FALSE NEIGHBOUR: 'it returns false'. Refute it at one input. -/
def fxNobodyWrong : ChangeSpec := { name := "fxNobody", fn := fun _ => fun
  | [d1, d2, d3] => { results := [.lit (.bool false)], args := [d1, d2, d3] }
  | _ => none }
def FxNobodyWrongFalsely : Prop := fxNobodyRow.holds Try.pinned (OpenSpec.ofChange fxNobodyWrong)

/- THE SECOND FORM. 'bulk': how many values and letters a reading holds, each counted each time it is reached (what is shared counts as often as it is met; a slice's spare places count too). A statement '..UptoSaid' is the law's where the arguments, and the package variables that the reading takes, are together of bulk at most 1048576: NARROWER than '..Said'. Prove '..Said' where nothing that the law and all that it calls make is longer than what came in: it says more and counts as full. Else prove '..UptoSaid'. A law counts once. -/
mutual
def uptoBulk {H : Type} : DataW H → Nat
  | .lit (.string bytes) => bytes.length + 1
  | .lit _ => 1
  | .nil => 1
  | .ptr d => uptoBulk d + 1
  | .slice elems spare => uptoBulkAll elems + uptoBulkAll spare + 1
  | .agg parts => uptoBulkAll parts + 1
  | .iface _ d => uptoBulk d + 1
  | .map entries => uptoBulkEntries entries + 1
  | .held _ => 1
def uptoBulkAll {H : Type} : List (DataW H) → Nat
  | [] => 0
  | d :: r => uptoBulk d + uptoBulkAll r
def uptoBulkEntries {H : Type} : List (Lit × DataW H) → Nat
  | [] => 0
  | x :: r => uptoBulkEntry x + uptoBulkEntries r
def uptoBulkEntry {H : Type} : Lit × DataW H → Nat
  | (.string bytes, d) => bytes.length + uptoBulk d + 1
  | (_, d) => uptoBulk d + 1
 end
def uptoSmall : (H : Type) → List (DataW H) → Bool := fun _ ds => decide (uptoBulkAll ds ≤ 1048576)
def OpenSpec.upto (s : _root_.Go.ChangeSpec) : _root_.Go.OpenSpec := { _root_.Go.OpenSpec.ofChange s with cond := some uptoSmall }

/-- 'octroilaw16.FxOwn', WHERE WHAT IT READS IS OF BULK AT MOST 1048576: true; the input reads as it did. -/
def fxOwnUptoRow : OpenClaim := { program := "ytogmjkmnknaieaa", sum := "739c79076686821b928fe6f2bc3dccc19bd8ff8722b1eb5dd6c5416fab66c30d", func := "octroi/octroilaw16.FxOwn", spec := "fxOwn", unfollowed := true, recurses := true, named := ["math/bits.divideError", "math/bits.overflowError"], plainKeys := false, apart := false, narrowed := true }
def FxOwnUptoSaid : Prop := fxOwnUptoRow.holds Try.pinned (OpenSpec.upto fxOwnSpec)

/-- 'octroilaw16.FxSets', WHERE WHAT IT READS IS OF BULK AT MOST 1048576: true; the input reads as it did. -/
def fxSetsUptoRow : OpenClaim := { program := "ytogmjkmnknaieaa", sum := "739c79076686821b928fe6f2bc3dccc19bd8ff8722b1eb5dd6c5416fab66c30d", func := "octroi/octroilaw16.FxSets", spec := "fxSets", unfollowed := true, recurses := true, named := ["math/bits.divideError", "math/bits.overflowError"], plainKeys := false, apart := false, narrowed := true }
def FxSetsUptoSaid : Prop := fxSetsUptoRow.holds Try.pinned (OpenSpec.upto fxSetsSpec)

/-- 'octroilaw16.FxNobody', WHERE WHAT IT READS IS OF BULK AT MOST 1048576: true; the input reads as it did. -/
def fxNobodyUptoRow : OpenClaim := { program := "ytogmjkmnknaieaa", sum := "739c79076686821b928fe6f2bc3dccc19bd8ff8722b1eb5dd6c5416fab66c30d", func := "octroi/octroilaw16.FxNobody", spec := "fxNobody", unfollowed := true, recurses := true, named := ["math/bits.divideError", "math/bits.overflowError"], plainKeys := false, apart := false, narrowed := true }
def FxNobodyUptoSaid : Prop := fxNobodyUptoRow.holds Try.pinned (OpenSpec.upto fxNobodySpec)

end Rows
end Go.Proofs.Ytogmjkmnknaieaa
