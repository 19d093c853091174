/-
  No cell of these rows narrows 'for every input' (looked for: loops, veiled, ifaces, maps, wideKeys, modest, calm, conditions, laid).
  DERIVED. THE GIVEN ROWS OF THIS SEAT. 8 by the template 'for every input the law returns true; each argument reads behind the call as it read before'; 0 by the template 'total and deterministic' (their statements: YtplcclifmajcfaaTotals.lean).
  GIVEN WITH THE SEED: the statements are not yours to turn. If you find one false, say at which input.
  Laid BY PROGRAM, IN A SANDBOX (cutbox-rows.mjs): the forced cells as the released guide's own fill.sh prints them over the translation 06fcdb6ed3dcc64e… (all of the seat's roots in one cut). By AI agents, Wed Nov 11 2026. No macro, syntax, notation, axiom, sorry.
-/
import Derived.Test.YtplcclifmajcfaaChecked
import GoSem.Claim
import GoSem.ClaimJoined
import GoSem.ClaimMapViews
import Derived.JoinedTies
import Derived.KernelRfl
namespace Go.Proofs.Ytplcclifmajcfaa
/- THE CELL 'sum', in the pinned program and in every row, IS THE sha256 OF THE DUMP (.gsa) THAT YtplcclifmajcfaaProg.lean LOADS. Nothing in Lean hashes anything: it is a label: what it is worth is what the hold of that sum in a sandbox is worth. -/
noncomputable def Try.pinned : Pinned := { name := "ytplcclifmajcfaa", sum := "06fcdb6ed3dcc64e089bea53a83d2dd11c2105c835acf55bbec67e9d8abf2450", checked := Try.checked }
namespace Rows
def none {H : Type} : Left H := { results := [], args := [] }

/-- 'laws.FnExactLaplacianOf': WHATEVER THE INPUT: true; the input reads as it did. -/
def fnExactLaplacianOfSpec : ChangeSpec := { name := "fnExactLaplacianOf", fn := fun _ => fun
  | [d] => { results := [.lit (.bool true)], args := [d] }
  | _ => none }
def fnExactLaplacianOfRow : OpenClaim := { program := "ytplcclifmajcfaa", sum := "06fcdb6ed3dcc64e089bea53a83d2dd11c2105c835acf55bbec67e9d8abf2450", func := "loop.example/g00841/laws.FnExactLaplacianOf", spec := "fnExactLaplacianOf", unfollowed := true, recurses := true, apart := false }
def FnExactLaplacianOfSaid : Prop := fnExactLaplacianOfRow.holds Try.pinned (OpenSpec.ofChange fnExactLaplacianOfSpec)

/-- ITS FALSE NEIGHBOUR: 'it returns false'. Refute it at one input. -/
def fnExactLaplacianOfWrong : ChangeSpec := { name := "fnExactLaplacianOf", fn := fun _ => fun
  | [d] => { results := [.lit (.bool false)], args := [d] }
  | _ => none }
def FnExactLaplacianOfWrongFalsely : Prop := fnExactLaplacianOfRow.holds Try.pinned (OpenSpec.ofChange fnExactLaplacianOfWrong)

/-- 'laws.FnExactInvariantFactors': WHATEVER THE INPUT: true; the input reads as it did. -/
def fnExactInvariantFactorsSpec : ChangeSpec := { name := "fnExactInvariantFactors", fn := fun _ => fun
  | [d] => { results := [.lit (.bool true)], args := [d] }
  | _ => none }
def fnExactInvariantFactorsRow : OpenClaim := { program := "ytplcclifmajcfaa", sum := "06fcdb6ed3dcc64e089bea53a83d2dd11c2105c835acf55bbec67e9d8abf2450", func := "loop.example/g00841/laws.FnExactInvariantFactors", spec := "fnExactInvariantFactors", recurses := true, apart := false }
def FnExactInvariantFactorsSaid : Prop := fnExactInvariantFactorsRow.holds Try.pinned (OpenSpec.ofChange fnExactInvariantFactorsSpec)

/-- ITS FALSE NEIGHBOUR: 'it returns false'. Refute it at one input. -/
def fnExactInvariantFactorsWrong : ChangeSpec := { name := "fnExactInvariantFactors", fn := fun _ => fun
  | [d] => { results := [.lit (.bool false)], args := [d] }
  | _ => none }
def FnExactInvariantFactorsWrongFalsely : Prop := fnExactInvariantFactorsRow.holds Try.pinned (OpenSpec.ofChange fnExactInvariantFactorsWrong)

/-- 'laws.FnExactReducedLaplacian': WHATEVER THE INPUT: true; the input reads as it did. -/
def fnExactReducedLaplacianSpec : ChangeSpec := { name := "fnExactReducedLaplacian", fn := fun _ => fun
  | [d1, d2] => { results := [.lit (.bool true)], args := [d1, d2] }
  | _ => none }
def fnExactReducedLaplacianRow : OpenClaim := { program := "ytplcclifmajcfaa", sum := "06fcdb6ed3dcc64e089bea53a83d2dd11c2105c835acf55bbec67e9d8abf2450", func := "loop.example/g00841/laws.FnExactReducedLaplacian", spec := "fnExactReducedLaplacian", unfollowed := true, recurses := true, apart := false }
def FnExactReducedLaplacianSaid : Prop := fnExactReducedLaplacianRow.holds Try.pinned (OpenSpec.ofChange fnExactReducedLaplacianSpec)

/-- ITS FALSE NEIGHBOUR: 'it returns false'. Refute it at one input. -/
def fnExactReducedLaplacianWrong : ChangeSpec := { name := "fnExactReducedLaplacian", fn := fun _ => fun
  | [d1, d2] => { results := [.lit (.bool false)], args := [d1, d2] }
  | _ => none }
def FnExactReducedLaplacianWrongFalsely : Prop := fnExactReducedLaplacianRow.holds Try.pinned (OpenSpec.ofChange fnExactReducedLaplacianWrong)

/-- 'laws.FnExactCountTrees': WHATEVER THE INPUT: true; the input reads as it did. -/
def fnExactCountTreesSpec : ChangeSpec := { name := "fnExactCountTrees", fn := fun _ => fun
  | [d] => { results := [.lit (.bool true)], args := [d] }
  | _ => none }
def fnExactCountTreesRow : OpenClaim := { program := "ytplcclifmajcfaa", sum := "06fcdb6ed3dcc64e089bea53a83d2dd11c2105c835acf55bbec67e9d8abf2450", func := "loop.example/g00841/laws.FnExactCountTrees", spec := "fnExactCountTrees", unfollowed := true, recurses := true, apart := false }
def FnExactCountTreesSaid : Prop := fnExactCountTreesRow.holds Try.pinned (OpenSpec.ofChange fnExactCountTreesSpec)

/-- ITS FALSE NEIGHBOUR: 'it returns false'. Refute it at one input. -/
def fnExactCountTreesWrong : ChangeSpec := { name := "fnExactCountTrees", fn := fun _ => fun
  | [d] => { results := [.lit (.bool false)], args := [d] }
  | _ => none }
def FnExactCountTreesWrongFalsely : Prop := fnExactCountTreesRow.holds Try.pinned (OpenSpec.ofChange fnExactCountTreesWrong)

/-- 'laws.FnExactGroupOrder': WHATEVER THE INPUT: true; the input reads as it did. -/
def fnExactGroupOrderSpec : ChangeSpec := { name := "fnExactGroupOrder", fn := fun _ => fun
  | [d] => { results := [.lit (.bool true)], args := [d] }
  | _ => none }
def fnExactGroupOrderRow : OpenClaim := { program := "ytplcclifmajcfaa", sum := "06fcdb6ed3dcc64e089bea53a83d2dd11c2105c835acf55bbec67e9d8abf2450", func := "loop.example/g00841/laws.FnExactGroupOrder", spec := "fnExactGroupOrder", unfollowed := true, recurses := true, apart := false }
def FnExactGroupOrderSaid : Prop := fnExactGroupOrderRow.holds Try.pinned (OpenSpec.ofChange fnExactGroupOrderSpec)

/-- ITS FALSE NEIGHBOUR: 'it returns false'. Refute it at one input. -/
def fnExactGroupOrderWrong : ChangeSpec := { name := "fnExactGroupOrder", fn := fun _ => fun
  | [d] => { results := [.lit (.bool false)], args := [d] }
  | _ => none }
def FnExactGroupOrderWrongFalsely : Prop := fnExactGroupOrderRow.holds Try.pinned (OpenSpec.ofChange fnExactGroupOrderWrong)

/-- 'laws.FnExactDropEdge': WHATEVER THE INPUT: true; the input reads as it did. -/
def fnExactDropEdgeSpec : ChangeSpec := { name := "fnExactDropEdge", fn := fun _ => fun
  | [d1, d2] => { results := [.lit (.bool true)], args := [d1, d2] }
  | _ => none }
def fnExactDropEdgeRow : OpenClaim := { program := "ytplcclifmajcfaa", sum := "06fcdb6ed3dcc64e089bea53a83d2dd11c2105c835acf55bbec67e9d8abf2450", func := "loop.example/g00841/laws.FnExactDropEdge", spec := "fnExactDropEdge", unfollowed := true, recurses := true, apart := false }
def FnExactDropEdgeSaid : Prop := fnExactDropEdgeRow.holds Try.pinned (OpenSpec.ofChange fnExactDropEdgeSpec)

/-- ITS FALSE NEIGHBOUR: 'it returns false'. Refute it at one input. -/
def fnExactDropEdgeWrong : ChangeSpec := { name := "fnExactDropEdge", fn := fun _ => fun
  | [d1, d2] => { results := [.lit (.bool false)], args := [d1, d2] }
  | _ => none }
def FnExactDropEdgeWrongFalsely : Prop := fnExactDropEdgeRow.holds Try.pinned (OpenSpec.ofChange fnExactDropEdgeWrong)

/-- 'laws.FnFactors': WHATEVER THE INPUT: true; the input reads as it did. -/
def fnFactorsSpec : ChangeSpec := { name := "fnFactors", fn := fun _ => fun
  | [d] => { results := [.lit (.bool true)], args := [d] }
  | _ => none }
def fnFactorsRow : OpenClaim := { program := "ytplcclifmajcfaa", sum := "06fcdb6ed3dcc64e089bea53a83d2dd11c2105c835acf55bbec67e9d8abf2450", func := "loop.example/g00841/laws.FnFactors", spec := "fnFactors", unfollowed := true, recurses := true, apart := false }
def FnFactorsSaid : Prop := fnFactorsRow.holds Try.pinned (OpenSpec.ofChange fnFactorsSpec)

/-- ITS FALSE NEIGHBOUR: 'it returns false'. Refute it at one input. -/
def fnFactorsWrong : ChangeSpec := { name := "fnFactors", fn := fun _ => fun
  | [d] => { results := [.lit (.bool false)], args := [d] }
  | _ => none }
def FnFactorsWrongFalsely : Prop := fnFactorsRow.holds Try.pinned (OpenSpec.ofChange fnFactorsWrong)

/-- 'laws.FnGraphs': WHATEVER THE INPUT: true; the input reads as it did. -/
def fnGraphsSpec : ChangeSpec := { name := "fnGraphs", fn := fun _ => fun
  | [d] => { results := [.lit (.bool true)], args := [d] }
  | _ => none }
def fnGraphsRow : OpenClaim := { program := "ytplcclifmajcfaa", sum := "06fcdb6ed3dcc64e089bea53a83d2dd11c2105c835acf55bbec67e9d8abf2450", func := "loop.example/g00841/laws.FnGraphs", spec := "fnGraphs", unfollowed := true, recurses := true, apart := false }
def FnGraphsSaid : Prop := fnGraphsRow.holds Try.pinned (OpenSpec.ofChange fnGraphsSpec)

/-- ITS FALSE NEIGHBOUR: 'it returns false'. Refute it at one input. -/
def fnGraphsWrong : ChangeSpec := { name := "fnGraphs", fn := fun _ => fun
  | [d] => { results := [.lit (.bool false)], args := [d] }
  | _ => none }
def FnGraphsWrongFalsely : Prop := fnGraphsRow.holds Try.pinned (OpenSpec.ofChange fnGraphsWrong)

/- THE SECOND FORM. 'bulk': how many values and letters a reading holds, each counted each time it is reached (what is shared counts as often as it is met; a slice's spare places count too). A statement '..UptoSaid' is the law's where the arguments, and the package variables that the reading takes, are together of bulk at most 1048576: NARROWER than '..Said'. Prove '..Said' where nothing that the law and all that it calls make is longer than what came in: it says more and counts as full. Else prove '..UptoSaid'. A law counts once. -/
mutual
def uptoBulk {H : Type} : DataW H → Nat
  | .lit (.string bytes) => bytes.length + 1
  | .lit _ => 1
  | .nil => 1
  | .ptr d => uptoBulk d + 1
  | .slice elems spare => uptoBulkAll elems + uptoBulkAll spare + 1
  | .agg parts => uptoBulkAll parts + 1
  | .iface _ d => uptoBulk d + 1
  | .map entries => uptoBulkEntries entries + 1
  | .held _ => 1
def uptoBulkAll {H : Type} : List (DataW H) → Nat
  | [] => 0
  | d :: r => uptoBulk d + uptoBulkAll r
def uptoBulkEntries {H : Type} : List (Lit × DataW H) → Nat
  | [] => 0
  | x :: r => uptoBulkEntry x + uptoBulkEntries r
def uptoBulkEntry {H : Type} : Lit × DataW H → Nat
  | (.string bytes, d) => bytes.length + uptoBulk d + 1
  | (_, d) => uptoBulk d + 1
 end
def uptoSmall : (H : Type) → List (DataW H) → Bool := fun _ ds => decide (uptoBulkAll ds ≤ 1048576)
def OpenSpec.upto (s : _root_.Go.ChangeSpec) : _root_.Go.OpenSpec := { _root_.Go.OpenSpec.ofChange s with cond := some uptoSmall }

/-- 'laws.FnExactLaplacianOf', WHERE WHAT IT READS IS OF BULK AT MOST 1048576: true; the input reads as it did. -/
def fnExactLaplacianOfUptoRow : OpenClaim := { program := "ytplcclifmajcfaa", sum := "06fcdb6ed3dcc64e089bea53a83d2dd11c2105c835acf55bbec67e9d8abf2450", func := "loop.example/g00841/laws.FnExactLaplacianOf", spec := "fnExactLaplacianOf", unfollowed := true, recurses := true, apart := false, narrowed := true }
def FnExactLaplacianOfUptoSaid : Prop := fnExactLaplacianOfUptoRow.holds Try.pinned (OpenSpec.upto fnExactLaplacianOfSpec)

/-- 'laws.FnExactInvariantFactors', WHERE WHAT IT READS IS OF BULK AT MOST 1048576: true; the input reads as it did. -/
def fnExactInvariantFactorsUptoRow : OpenClaim := { program := "ytplcclifmajcfaa", sum := "06fcdb6ed3dcc64e089bea53a83d2dd11c2105c835acf55bbec67e9d8abf2450", func := "loop.example/g00841/laws.FnExactInvariantFactors", spec := "fnExactInvariantFactors", recurses := true, apart := false, narrowed := true }
def FnExactInvariantFactorsUptoSaid : Prop := fnExactInvariantFactorsUptoRow.holds Try.pinned (OpenSpec.upto fnExactInvariantFactorsSpec)

/-- 'laws.FnExactReducedLaplacian', WHERE WHAT IT READS IS OF BULK AT MOST 1048576: true; the input reads as it did. -/
def fnExactReducedLaplacianUptoRow : OpenClaim := { program := "ytplcclifmajcfaa", sum := "06fcdb6ed3dcc64e089bea53a83d2dd11c2105c835acf55bbec67e9d8abf2450", func := "loop.example/g00841/laws.FnExactReducedLaplacian", spec := "fnExactReducedLaplacian", unfollowed := true, recurses := true, apart := false, narrowed := true }
def FnExactReducedLaplacianUptoSaid : Prop := fnExactReducedLaplacianUptoRow.holds Try.pinned (OpenSpec.upto fnExactReducedLaplacianSpec)

/-- 'laws.FnExactCountTrees', WHERE WHAT IT READS IS OF BULK AT MOST 1048576: true; the input reads as it did. -/
def fnExactCountTreesUptoRow : OpenClaim := { program := "ytplcclifmajcfaa", sum := "06fcdb6ed3dcc64e089bea53a83d2dd11c2105c835acf55bbec67e9d8abf2450", func := "loop.example/g00841/laws.FnExactCountTrees", spec := "fnExactCountTrees", unfollowed := true, recurses := true, apart := false, narrowed := true }
def FnExactCountTreesUptoSaid : Prop := fnExactCountTreesUptoRow.holds Try.pinned (OpenSpec.upto fnExactCountTreesSpec)

/-- 'laws.FnExactGroupOrder', WHERE WHAT IT READS IS OF BULK AT MOST 1048576: true; the input reads as it did. -/
def fnExactGroupOrderUptoRow : OpenClaim := { program := "ytplcclifmajcfaa", sum := "06fcdb6ed3dcc64e089bea53a83d2dd11c2105c835acf55bbec67e9d8abf2450", func := "loop.example/g00841/laws.FnExactGroupOrder", spec := "fnExactGroupOrder", unfollowed := true, recurses := true, apart := false, narrowed := true }
def FnExactGroupOrderUptoSaid : Prop := fnExactGroupOrderUptoRow.holds Try.pinned (OpenSpec.upto fnExactGroupOrderSpec)

/-- 'laws.FnExactDropEdge', WHERE WHAT IT READS IS OF BULK AT MOST 1048576: true; the input reads as it did. -/
def fnExactDropEdgeUptoRow : OpenClaim := { program := "ytplcclifmajcfaa", sum := "06fcdb6ed3dcc64e089bea53a83d2dd11c2105c835acf55bbec67e9d8abf2450", func := "loop.example/g00841/laws.FnExactDropEdge", spec := "fnExactDropEdge", unfollowed := true, recurses := true, apart := false, narrowed := true }
def FnExactDropEdgeUptoSaid : Prop := fnExactDropEdgeUptoRow.holds Try.pinned (OpenSpec.upto fnExactDropEdgeSpec)

/-- 'laws.FnFactors', WHERE WHAT IT READS IS OF BULK AT MOST 1048576: true; the input reads as it did. -/
def fnFactorsUptoRow : OpenClaim := { program := "ytplcclifmajcfaa", sum := "06fcdb6ed3dcc64e089bea53a83d2dd11c2105c835acf55bbec67e9d8abf2450", func := "loop.example/g00841/laws.FnFactors", spec := "fnFactors", unfollowed := true, recurses := true, apart := false, narrowed := true }
def FnFactorsUptoSaid : Prop := fnFactorsUptoRow.holds Try.pinned (OpenSpec.upto fnFactorsSpec)

/-- 'laws.FnGraphs', WHERE WHAT IT READS IS OF BULK AT MOST 1048576: true; the input reads as it did. -/
def fnGraphsUptoRow : OpenClaim := { program := "ytplcclifmajcfaa", sum := "06fcdb6ed3dcc64e089bea53a83d2dd11c2105c835acf55bbec67e9d8abf2450", func := "loop.example/g00841/laws.FnGraphs", spec := "fnGraphs", unfollowed := true, recurses := true, apart := false, narrowed := true }
def FnGraphsUptoSaid : Prop := fnGraphsUptoRow.holds Try.pinned (OpenSpec.upto fnGraphsSpec)

end Rows
end Go.Proofs.Ytplcclifmajcfaa
