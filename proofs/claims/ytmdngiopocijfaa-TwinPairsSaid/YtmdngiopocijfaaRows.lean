/-
  No cell of these rows narrows 'for every input' (looked for: loops, veiled, ifaces, maps, wideKeys, modest, calm, conditions, laid).
  DERIVED. THE GIVEN ROWS OF THIS SEAT. 4 by the template 'for every input the law returns true; each argument reads behind the call as it read before'; 0 by the template 'total and deterministic' (their statements: YtmdngiopocijfaaTotals.lean).
  GIVEN WITH THE SEED: the statements are not yours to turn. If you find one false, say at which input.
  Laid BY PROGRAM, IN A SANDBOX (cutbox-rows.mjs): the forced cells as the released guide's own fill.sh prints them over the translation 723815665f25e7a2… (all of the seat's roots in one cut). By AI agents, Wed Nov 11 2026. No macro, syntax, notation, axiom, sorry.
-/
import Derived.Test.YtmdngiopocijfaaChecked
import GoSem.Claim
import GoSem.ClaimJoined
import GoSem.ClaimMapViews
import Derived.JoinedTies
import Derived.KernelRfl
namespace Go.Proofs.Ytmdngiopocijfaa
/- THE CELL 'sum', in the pinned program and in every row, IS THE sha256 OF THE DUMP (.gsa) THAT YtmdngiopocijfaaProg.lean LOADS. Nothing in Lean hashes anything: it is a label: what it is worth is what the hold of that sum in a sandbox is worth. -/
noncomputable def Try.pinned : Pinned := { name := "ytmdngiopocijfaa", sum := "723815665f25e7a2334fab4da2f2db7b1149e4881baf6c44666f78a28e5e1bf4", checked := Try.checked }
namespace Rows
def none {H : Type} : Left H := { results := [], args := [] }

/-- 'octroilaw24.TwinMakes': WHATEVER THE INPUT: true; the input reads as it did. -/
def twinMakesSpec : ChangeSpec := { name := "twinMakes", fn := fun _ => fun
  | [d] => { results := [.lit (.bool true)], args := [d] }
  | _ => none }
def twinMakesRow : OpenClaim := { program := "ytmdngiopocijfaa", sum := "723815665f25e7a2334fab4da2f2db7b1149e4881baf6c44666f78a28e5e1bf4", func := "octroi/octroilaw24.TwinMakes", spec := "twinMakes", inPlace := ["math/bits.Add64"], unfollowed := true, recurses := true, named := ["math/bits.divideError", "math/bits.overflowError"], apart := false }
def TwinMakesSaid : Prop := twinMakesRow.holds Try.pinned (OpenSpec.ofChange twinMakesSpec)

/-- ITS FALSE NEIGHBOUR: 'it returns false'. Refute it at one input. -/
def twinMakesWrong : ChangeSpec := { name := "twinMakes", fn := fun _ => fun
  | [d] => { results := [.lit (.bool false)], args := [d] }
  | _ => none }
def TwinMakesWrongFalsely : Prop := twinMakesRow.holds Try.pinned (OpenSpec.ofChange twinMakesWrong)

/-- 'octroilaw24.TwinBalance': WHATEVER THE INPUT: true; the input reads as it did. -/
def twinBalanceSpec : ChangeSpec := { name := "twinBalance", fn := fun _ => fun
  | [d] => { results := [.lit (.bool true)], args := [d] }
  | _ => none }
def twinBalanceRow : OpenClaim := { program := "ytmdngiopocijfaa", sum := "723815665f25e7a2334fab4da2f2db7b1149e4881baf6c44666f78a28e5e1bf4", func := "octroi/octroilaw24.TwinBalance", spec := "twinBalance", inPlace := ["math/bits.Add64"], unfollowed := true, recurses := true, named := ["math/bits.divideError", "math/bits.overflowError"], apart := false }
def TwinBalanceSaid : Prop := twinBalanceRow.holds Try.pinned (OpenSpec.ofChange twinBalanceSpec)

/-- ITS FALSE NEIGHBOUR: 'it returns false'. Refute it at one input. -/
def twinBalanceWrong : ChangeSpec := { name := "twinBalance", fn := fun _ => fun
  | [d] => { results := [.lit (.bool false)], args := [d] }
  | _ => none }
def TwinBalanceWrongFalsely : Prop := twinBalanceRow.holds Try.pinned (OpenSpec.ofChange twinBalanceWrong)

/-- 'octroilaw24.TwinPairs': WHATEVER THE INPUT: true; the input reads as it did. -/
def twinPairsSpec : ChangeSpec := { name := "twinPairs", fn := fun _ => fun
  | [d1, d2] => { results := [.lit (.bool true)], args := [d1, d2] }
  | _ => none }
def twinPairsRow : OpenClaim := { program := "ytmdngiopocijfaa", sum := "723815665f25e7a2334fab4da2f2db7b1149e4881baf6c44666f78a28e5e1bf4", func := "octroi/octroilaw24.TwinPairs", spec := "twinPairs", inPlace := ["math/bits.Add64"], unfollowed := true, recurses := true, named := ["math/bits.divideError", "math/bits.overflowError"], apart := false }
def TwinPairsSaid : Prop := twinPairsRow.holds Try.pinned (OpenSpec.ofChange twinPairsSpec)

/-- ITS FALSE NEIGHBOUR: 'it returns false'. Refute it at one input. -/
def twinPairsWrong : ChangeSpec := { name := "twinPairs", fn := fun _ => fun
  | [d1, d2] => { results := [.lit (.bool false)], args := [d1, d2] }
  | _ => none }
def TwinPairsWrongFalsely : Prop := twinPairsRow.holds Try.pinned (OpenSpec.ofChange twinPairsWrong)

/-- 'octroilaw24.TwinPosts': WHATEVER THE INPUT: true; the input reads as it did. -/
def twinPostsSpec : ChangeSpec := { name := "twinPosts", fn := fun _ => fun
  | [d1, d2, d3] => { results := [.lit (.bool true)], args := [d1, d2, d3] }
  | _ => none }
def twinPostsRow : OpenClaim := { program := "ytmdngiopocijfaa", sum := "723815665f25e7a2334fab4da2f2db7b1149e4881baf6c44666f78a28e5e1bf4", func := "octroi/octroilaw24.TwinPosts", spec := "twinPosts", inPlace := ["math/bits.Add64"], unfollowed := true, recurses := true, named := ["math/bits.divideError", "math/bits.overflowError"], apart := false }
def TwinPostsSaid : Prop := twinPostsRow.holds Try.pinned (OpenSpec.ofChange twinPostsSpec)

/-- ITS FALSE NEIGHBOUR: 'it returns false'. Refute it at one input. -/
def twinPostsWrong : ChangeSpec := { name := "twinPosts", fn := fun _ => fun
  | [d1, d2, d3] => { results := [.lit (.bool false)], args := [d1, d2, d3] }
  | _ => none }
def TwinPostsWrongFalsely : Prop := twinPostsRow.holds Try.pinned (OpenSpec.ofChange twinPostsWrong)

/- THE SECOND FORM. 'bulk': how many values and letters a reading holds, each counted each time it is reached (what is shared counts as often as it is met; a slice's spare places count too). A statement '..UptoSaid' is the law's where the arguments, and the package variables that the reading takes, are together of bulk at most 1048576: NARROWER than '..Said'. Prove '..Said' where nothing that the law and all that it calls make is longer than what came in: it says more and counts as full. Else prove '..UptoSaid'. A law counts once. -/
mutual
def uptoBulk {H : Type} : DataW H → Nat
  | .lit (.string bytes) => bytes.length + 1
  | .lit _ => 1
  | .nil => 1
  | .ptr d => uptoBulk d + 1
  | .slice elems spare => uptoBulkAll elems + uptoBulkAll spare + 1
  | .agg parts => uptoBulkAll parts + 1
  | .iface _ d => uptoBulk d + 1
  | .map entries => uptoBulkEntries entries + 1
  | .held _ => 1
def uptoBulkAll {H : Type} : List (DataW H) → Nat
  | [] => 0
  | d :: r => uptoBulk d + uptoBulkAll r
def uptoBulkEntries {H : Type} : List (Lit × DataW H) → Nat
  | [] => 0
  | x :: r => uptoBulkEntry x + uptoBulkEntries r
def uptoBulkEntry {H : Type} : Lit × DataW H → Nat
  | (.string bytes, d) => bytes.length + uptoBulk d + 1
  | (_, d) => uptoBulk d + 1
 end
def uptoSmall : (H : Type) → List (DataW H) → Bool := fun _ ds => decide (uptoBulkAll ds ≤ 1048576)
def OpenSpec.upto (s : _root_.Go.ChangeSpec) : _root_.Go.OpenSpec := { _root_.Go.OpenSpec.ofChange s with cond := some uptoSmall }

/-- 'octroilaw24.TwinMakes', WHERE WHAT IT READS IS OF BULK AT MOST 1048576: true; the input reads as it did. -/
def twinMakesUptoRow : OpenClaim := { program := "ytmdngiopocijfaa", sum := "723815665f25e7a2334fab4da2f2db7b1149e4881baf6c44666f78a28e5e1bf4", func := "octroi/octroilaw24.TwinMakes", spec := "twinMakes", inPlace := ["math/bits.Add64"], unfollowed := true, recurses := true, named := ["math/bits.divideError", "math/bits.overflowError"], apart := false, narrowed := true }
def TwinMakesUptoSaid : Prop := twinMakesUptoRow.holds Try.pinned (OpenSpec.upto twinMakesSpec)

/-- 'octroilaw24.TwinBalance', WHERE WHAT IT READS IS OF BULK AT MOST 1048576: true; the input reads as it did. -/
def twinBalanceUptoRow : OpenClaim := { program := "ytmdngiopocijfaa", sum := "723815665f25e7a2334fab4da2f2db7b1149e4881baf6c44666f78a28e5e1bf4", func := "octroi/octroilaw24.TwinBalance", spec := "twinBalance", inPlace := ["math/bits.Add64"], unfollowed := true, recurses := true, named := ["math/bits.divideError", "math/bits.overflowError"], apart := false, narrowed := true }
def TwinBalanceUptoSaid : Prop := twinBalanceUptoRow.holds Try.pinned (OpenSpec.upto twinBalanceSpec)

/-- 'octroilaw24.TwinPairs', WHERE WHAT IT READS IS OF BULK AT MOST 1048576: true; the input reads as it did. -/
def twinPairsUptoRow : OpenClaim := { program := "ytmdngiopocijfaa", sum := "723815665f25e7a2334fab4da2f2db7b1149e4881baf6c44666f78a28e5e1bf4", func := "octroi/octroilaw24.TwinPairs", spec := "twinPairs", inPlace := ["math/bits.Add64"], unfollowed := true, recurses := true, named := ["math/bits.divideError", "math/bits.overflowError"], apart := false, narrowed := true }
def TwinPairsUptoSaid : Prop := twinPairsUptoRow.holds Try.pinned (OpenSpec.upto twinPairsSpec)

/-- 'octroilaw24.TwinPosts', WHERE WHAT IT READS IS OF BULK AT MOST 1048576: true; the input reads as it did. -/
def twinPostsUptoRow : OpenClaim := { program := "ytmdngiopocijfaa", sum := "723815665f25e7a2334fab4da2f2db7b1149e4881baf6c44666f78a28e5e1bf4", func := "octroi/octroilaw24.TwinPosts", spec := "twinPosts", inPlace := ["math/bits.Add64"], unfollowed := true, recurses := true, named := ["math/bits.divideError", "math/bits.overflowError"], apart := false, narrowed := true }
def TwinPostsUptoSaid : Prop := twinPostsUptoRow.holds Try.pinned (OpenSpec.upto twinPostsSpec)

end Rows
end Go.Proofs.Ytmdngiopocijfaa
