/-
  No cell of these rows narrows 'for every input' (looked for: loops, veiled, ifaces, maps, wideKeys, modest, calm, conditions, laid).
  DERIVED. THE GIVEN ROWS OF THIS SEAT. 12 by the template 'for every input the law returns true; each argument reads behind the call as it read before'; 0 by the template 'total and deterministic' (their statements: YtfpcgccnhpfcnaaTotals.lean).
  GIVEN WITH THE SEED: the statements are not yours to turn. If you find one false, say at which input.
  Laid BY PROGRAM, IN A SANDBOX (cutbox-rows.mjs): the forced cells as the released guide's own fill.sh prints them over the translation cfc25ee04541fac4… (all of the seat's roots in one cut). By AI agents, Wed Nov 11 2026. No macro, syntax, notation, axiom, sorry.
-/
import Derived.Test.YtfpcgccnhpfcnaaChecked
import GoSem.Claim
import GoSem.ClaimJoined
import GoSem.ClaimMapViews
import Derived.JoinedTies
import Derived.KernelRfl
namespace Go.Proofs.Ytfpcgccnhpfcnaa
/- THE CELL 'sum', in the pinned program and in every row, IS THE sha256 OF THE DUMP (.gsa) THAT YtfpcgccnhpfcnaaProg.lean LOADS. Nothing in Lean hashes anything: it is a label: what it is worth is what the hold of that sum in a sandbox is worth. -/
noncomputable def Try.pinned : Pinned := { name := "ytfpcgccnhpfcnaa", sum := "cfc25ee04541fac48dc20314ef81a87463a910f0f6ee341e4cc3322fcb0f12f5", checked := Try.checked }
namespace Rows
def none {H : Type} : Left H := { results := [], args := [] }

/-- 'laws.FnExactInvariantFactors': WHATEVER THE INPUT: true; the input reads as it did. -/
def fnExactInvariantFactorsSpec : ChangeSpec := { name := "fnExactInvariantFactors", fn := fun _ => fun
  | [d] => { results := [.lit (.bool true)], args := [d] }
  | _ => none }
def fnExactInvariantFactorsRow : OpenClaim := { program := "ytfpcgccnhpfcnaa", sum := "cfc25ee04541fac48dc20314ef81a87463a910f0f6ee341e4cc3322fcb0f12f5", func := "loop.example/g00841/laws.FnExactInvariantFactors", spec := "fnExactInvariantFactors", recurses := true, apart := false }
def FnExactInvariantFactorsSaid : Prop := fnExactInvariantFactorsRow.holds Try.pinned (OpenSpec.ofChange fnExactInvariantFactorsSpec)

/-- ITS FALSE NEIGHBOUR: 'it returns false'. Refute it at one input. -/
def fnExactInvariantFactorsWrong : ChangeSpec := { name := "fnExactInvariantFactors", fn := fun _ => fun
  | [d] => { results := [.lit (.bool false)], args := [d] }
  | _ => none }
def FnExactInvariantFactorsWrongFalsely : Prop := fnExactInvariantFactorsRow.holds Try.pinned (OpenSpec.ofChange fnExactInvariantFactorsWrong)

/-- 'laws.FnExactDropEdge': WHATEVER THE INPUT: true; the input reads as it did. -/
def fnExactDropEdgeSpec : ChangeSpec := { name := "fnExactDropEdge", fn := fun _ => fun
  | [d1, d2] => { results := [.lit (.bool true)], args := [d1, d2] }
  | _ => none }
def fnExactDropEdgeRow : OpenClaim := { program := "ytfpcgccnhpfcnaa", sum := "cfc25ee04541fac48dc20314ef81a87463a910f0f6ee341e4cc3322fcb0f12f5", func := "loop.example/g00841/laws.FnExactDropEdge", spec := "fnExactDropEdge", unfollowed := true, recurses := true, apart := false }
def FnExactDropEdgeSaid : Prop := fnExactDropEdgeRow.holds Try.pinned (OpenSpec.ofChange fnExactDropEdgeSpec)

/-- ITS FALSE NEIGHBOUR: 'it returns false'. Refute it at one input. -/
def fnExactDropEdgeWrong : ChangeSpec := { name := "fnExactDropEdge", fn := fun _ => fun
  | [d1, d2] => { results := [.lit (.bool false)], args := [d1, d2] }
  | _ => none }
def FnExactDropEdgeWrongFalsely : Prop := fnExactDropEdgeRow.holds Try.pinned (OpenSpec.ofChange fnExactDropEdgeWrong)

/-- 'laws.FnExactCanonicalOf': WHATEVER THE INPUT: true; the input reads as it did. -/
def fnExactCanonicalOfSpec : ChangeSpec := { name := "fnExactCanonicalOf", fn := fun _ => fun
  | [d] => { results := [.lit (.bool true)], args := [d] }
  | _ => none }
def fnExactCanonicalOfRow : OpenClaim := { program := "ytfpcgccnhpfcnaa", sum := "cfc25ee04541fac48dc20314ef81a87463a910f0f6ee341e4cc3322fcb0f12f5", func := "loop.example/g00841/laws.FnExactCanonicalOf", spec := "fnExactCanonicalOf", unfollowed := true, recurses := true, apart := false }
def FnExactCanonicalOfSaid : Prop := fnExactCanonicalOfRow.holds Try.pinned (OpenSpec.ofChange fnExactCanonicalOfSpec)

/-- ITS FALSE NEIGHBOUR: 'it returns false'. Refute it at one input. -/
def fnExactCanonicalOfWrong : ChangeSpec := { name := "fnExactCanonicalOf", fn := fun _ => fun
  | [d] => { results := [.lit (.bool false)], args := [d] }
  | _ => none }
def FnExactCanonicalOfWrongFalsely : Prop := fnExactCanonicalOfRow.holds Try.pinned (OpenSpec.ofChange fnExactCanonicalOfWrong)

/-- 'laws.FnExactDistancesFrom': WHATEVER THE INPUT: true; the input reads as it did. -/
def fnExactDistancesFromSpec : ChangeSpec := { name := "fnExactDistancesFrom", fn := fun _ => fun
  | [d1, d2] => { results := [.lit (.bool true)], args := [d1, d2] }
  | _ => none }
def fnExactDistancesFromRow : OpenClaim := { program := "ytfpcgccnhpfcnaa", sum := "cfc25ee04541fac48dc20314ef81a87463a910f0f6ee341e4cc3322fcb0f12f5", func := "loop.example/g00841/laws.FnExactDistancesFrom", spec := "fnExactDistancesFrom", unfollowed := true, recurses := true, apart := false }
def FnExactDistancesFromSaid : Prop := fnExactDistancesFromRow.holds Try.pinned (OpenSpec.ofChange fnExactDistancesFromSpec)

/-- ITS FALSE NEIGHBOUR: 'it returns false'. Refute it at one input. -/
def fnExactDistancesFromWrong : ChangeSpec := { name := "fnExactDistancesFrom", fn := fun _ => fun
  | [d1, d2] => { results := [.lit (.bool false)], args := [d1, d2] }
  | _ => none }
def FnExactDistancesFromWrongFalsely : Prop := fnExactDistancesFromRow.holds Try.pinned (OpenSpec.ofChange fnExactDistancesFromWrong)

/-- 'laws.FnExactFireScript': WHATEVER THE INPUT: true; the input reads as it did. -/
def fnExactFireScriptSpec : ChangeSpec := { name := "fnExactFireScript", fn := fun _ => fun
  | [d1, d2, d3] => { results := [.lit (.bool true)], args := [d1, d2, d3] }
  | _ => none }
def fnExactFireScriptRow : OpenClaim := { program := "ytfpcgccnhpfcnaa", sum := "cfc25ee04541fac48dc20314ef81a87463a910f0f6ee341e4cc3322fcb0f12f5", func := "loop.example/g00841/laws.FnExactFireScript", spec := "fnExactFireScript", unfollowed := true, recurses := true, apart := false }
def FnExactFireScriptSaid : Prop := fnExactFireScriptRow.holds Try.pinned (OpenSpec.ofChange fnExactFireScriptSpec)

/-- ITS FALSE NEIGHBOUR: 'it returns false'. Refute it at one input. -/
def fnExactFireScriptWrong : ChangeSpec := { name := "fnExactFireScript", fn := fun _ => fun
  | [d1, d2, d3] => { results := [.lit (.bool false)], args := [d1, d2, d3] }
  | _ => none }
def FnExactFireScriptWrongFalsely : Prop := fnExactFireScriptRow.holds Try.pinned (OpenSpec.ofChange fnExactFireScriptWrong)

/-- 'laws.FnExactIsLegalSet': WHATEVER THE INPUT: true; the input reads as it did. -/
def fnExactIsLegalSetSpec : ChangeSpec := { name := "fnExactIsLegalSet", fn := fun _ => fun
  | [d1, d2, d3] => { results := [.lit (.bool true)], args := [d1, d2, d3] }
  | _ => none }
def fnExactIsLegalSetRow : OpenClaim := { program := "ytfpcgccnhpfcnaa", sum := "cfc25ee04541fac48dc20314ef81a87463a910f0f6ee341e4cc3322fcb0f12f5", func := "loop.example/g00841/laws.FnExactIsLegalSet", spec := "fnExactIsLegalSet", unfollowed := true, recurses := true, apart := false }
def FnExactIsLegalSetSaid : Prop := fnExactIsLegalSetRow.holds Try.pinned (OpenSpec.ofChange fnExactIsLegalSetSpec)

/-- ITS FALSE NEIGHBOUR: 'it returns false'. Refute it at one input. -/
def fnExactIsLegalSetWrong : ChangeSpec := { name := "fnExactIsLegalSet", fn := fun _ => fun
  | [d1, d2, d3] => { results := [.lit (.bool false)], args := [d1, d2, d3] }
  | _ => none }
def FnExactIsLegalSetWrongFalsely : Prop := fnExactIsLegalSetRow.holds Try.pinned (OpenSpec.ofChange fnExactIsLegalSetWrong)

/-- 'laws.FnExactFireSet': WHATEVER THE INPUT: true; the input reads as it did. -/
def fnExactFireSetSpec : ChangeSpec := { name := "fnExactFireSet", fn := fun _ => fun
  | [d1, d2, d3] => { results := [.lit (.bool true)], args := [d1, d2, d3] }
  | _ => none }
def fnExactFireSetRow : OpenClaim := { program := "ytfpcgccnhpfcnaa", sum := "cfc25ee04541fac48dc20314ef81a87463a910f0f6ee341e4cc3322fcb0f12f5", func := "loop.example/g00841/laws.FnExactFireSet", spec := "fnExactFireSet", unfollowed := true, recurses := true, apart := false }
def FnExactFireSetSaid : Prop := fnExactFireSetRow.holds Try.pinned (OpenSpec.ofChange fnExactFireSetSpec)

/-- ITS FALSE NEIGHBOUR: 'it returns false'. Refute it at one input. -/
def fnExactFireSetWrong : ChangeSpec := { name := "fnExactFireSet", fn := fun _ => fun
  | [d1, d2, d3] => { results := [.lit (.bool false)], args := [d1, d2, d3] }
  | _ => none }
def FnExactFireSetWrongFalsely : Prop := fnExactFireSetRow.holds Try.pinned (OpenSpec.ofChange fnExactFireSetWrong)

/-- 'laws.FnExactLaplacianOf': WHATEVER THE INPUT: true; the input reads as it did. -/
def fnExactLaplacianOfSpec : ChangeSpec := { name := "fnExactLaplacianOf", fn := fun _ => fun
  | [d] => { results := [.lit (.bool true)], args := [d] }
  | _ => none }
def fnExactLaplacianOfRow : OpenClaim := { program := "ytfpcgccnhpfcnaa", sum := "cfc25ee04541fac48dc20314ef81a87463a910f0f6ee341e4cc3322fcb0f12f5", func := "loop.example/g00841/laws.FnExactLaplacianOf", spec := "fnExactLaplacianOf", unfollowed := true, recurses := true, apart := false }
def FnExactLaplacianOfSaid : Prop := fnExactLaplacianOfRow.holds Try.pinned (OpenSpec.ofChange fnExactLaplacianOfSpec)

/-- ITS FALSE NEIGHBOUR: 'it returns false'. Refute it at one input. -/
def fnExactLaplacianOfWrong : ChangeSpec := { name := "fnExactLaplacianOf", fn := fun _ => fun
  | [d] => { results := [.lit (.bool false)], args := [d] }
  | _ => none }
def FnExactLaplacianOfWrongFalsely : Prop := fnExactLaplacianOfRow.holds Try.pinned (OpenSpec.ofChange fnExactLaplacianOfWrong)

/-- 'laws.FnExactResidualOf': WHATEVER THE INPUT: true; the input reads as it did. -/
def fnExactResidualOfSpec : ChangeSpec := { name := "fnExactResidualOf", fn := fun _ => fun
  | [d1, d2] => { results := [.lit (.bool true)], args := [d1, d2] }
  | _ => none }
def fnExactResidualOfRow : OpenClaim := { program := "ytfpcgccnhpfcnaa", sum := "cfc25ee04541fac48dc20314ef81a87463a910f0f6ee341e4cc3322fcb0f12f5", func := "loop.example/g00841/laws.FnExactResidualOf", spec := "fnExactResidualOf", unfollowed := true, recurses := true, apart := false }
def FnExactResidualOfSaid : Prop := fnExactResidualOfRow.holds Try.pinned (OpenSpec.ofChange fnExactResidualOfSpec)

/-- ITS FALSE NEIGHBOUR: 'it returns false'. Refute it at one input. -/
def fnExactResidualOfWrong : ChangeSpec := { name := "fnExactResidualOf", fn := fun _ => fun
  | [d1, d2] => { results := [.lit (.bool false)], args := [d1, d2] }
  | _ => none }
def FnExactResidualOfWrongFalsely : Prop := fnExactResidualOfRow.holds Try.pinned (OpenSpec.ofChange fnExactResidualOfWrong)

/-- 'laws.FnExactIsReduced': WHATEVER THE INPUT: true; the input reads as it did. -/
def fnExactIsReducedSpec : ChangeSpec := { name := "fnExactIsReduced", fn := fun _ => fun
  | [d1, d2, d3] => { results := [.lit (.bool true)], args := [d1, d2, d3] }
  | _ => none }
def fnExactIsReducedRow : OpenClaim := { program := "ytfpcgccnhpfcnaa", sum := "cfc25ee04541fac48dc20314ef81a87463a910f0f6ee341e4cc3322fcb0f12f5", func := "loop.example/g00841/laws.FnExactIsReduced", spec := "fnExactIsReduced", unfollowed := true, recurses := true, apart := false }
def FnExactIsReducedSaid : Prop := fnExactIsReducedRow.holds Try.pinned (OpenSpec.ofChange fnExactIsReducedSpec)

/-- ITS FALSE NEIGHBOUR: 'it returns false'. Refute it at one input. -/
def fnExactIsReducedWrong : ChangeSpec := { name := "fnExactIsReduced", fn := fun _ => fun
  | [d1, d2, d3] => { results := [.lit (.bool false)], args := [d1, d2, d3] }
  | _ => none }
def FnExactIsReducedWrongFalsely : Prop := fnExactIsReducedRow.holds Try.pinned (OpenSpec.ofChange fnExactIsReducedWrong)

/-- 'laws.FnExactBurnFrom': WHATEVER THE INPUT: true; the input reads as it did. -/
def fnExactBurnFromSpec : ChangeSpec := { name := "fnExactBurnFrom", fn := fun _ => fun
  | [d1, d2, d3] => { results := [.lit (.bool true)], args := [d1, d2, d3] }
  | _ => none }
def fnExactBurnFromRow : OpenClaim := { program := "ytfpcgccnhpfcnaa", sum := "cfc25ee04541fac48dc20314ef81a87463a910f0f6ee341e4cc3322fcb0f12f5", func := "loop.example/g00841/laws.FnExactBurnFrom", spec := "fnExactBurnFrom", unfollowed := true, recurses := true, apart := false }
def FnExactBurnFromSaid : Prop := fnExactBurnFromRow.holds Try.pinned (OpenSpec.ofChange fnExactBurnFromSpec)

/-- ITS FALSE NEIGHBOUR: 'it returns false'. Refute it at one input. -/
def fnExactBurnFromWrong : ChangeSpec := { name := "fnExactBurnFrom", fn := fun _ => fun
  | [d1, d2, d3] => { results := [.lit (.bool false)], args := [d1, d2, d3] }
  | _ => none }
def FnExactBurnFromWrongFalsely : Prop := fnExactBurnFromRow.holds Try.pinned (OpenSpec.ofChange fnExactBurnFromWrong)

/-- 'laws.FnExactReducedLaplacian': WHATEVER THE INPUT: true; the input reads as it did. -/
def fnExactReducedLaplacianSpec : ChangeSpec := { name := "fnExactReducedLaplacian", fn := fun _ => fun
  | [d1, d2] => { results := [.lit (.bool true)], args := [d1, d2] }
  | _ => none }
def fnExactReducedLaplacianRow : OpenClaim := { program := "ytfpcgccnhpfcnaa", sum := "cfc25ee04541fac48dc20314ef81a87463a910f0f6ee341e4cc3322fcb0f12f5", func := "loop.example/g00841/laws.FnExactReducedLaplacian", spec := "fnExactReducedLaplacian", unfollowed := true, recurses := true, apart := false }
def FnExactReducedLaplacianSaid : Prop := fnExactReducedLaplacianRow.holds Try.pinned (OpenSpec.ofChange fnExactReducedLaplacianSpec)

/-- ITS FALSE NEIGHBOUR: 'it returns false'. Refute it at one input. -/
def fnExactReducedLaplacianWrong : ChangeSpec := { name := "fnExactReducedLaplacian", fn := fun _ => fun
  | [d1, d2] => { results := [.lit (.bool false)], args := [d1, d2] }
  | _ => none }
def FnExactReducedLaplacianWrongFalsely : Prop := fnExactReducedLaplacianRow.holds Try.pinned (OpenSpec.ofChange fnExactReducedLaplacianWrong)

/- THE SECOND FORM. 'bulk': how many values and letters a reading holds, each counted each time it is reached (what is shared counts as often as it is met; a slice's spare places count too). A statement '..UptoSaid' is the law's where the arguments, and the package variables that the reading takes, are together of bulk at most 1048576: NARROWER than '..Said'. Prove '..Said' where nothing that the law and all that it calls make is longer than what came in: it says more and counts as full. Else prove '..UptoSaid'. A law counts once. -/
mutual
def uptoBulk {H : Type} : DataW H → Nat
  | .lit (.string bytes) => bytes.length + 1
  | .lit _ => 1
  | .nil => 1
  | .ptr d => uptoBulk d + 1
  | .slice elems spare => uptoBulkAll elems + uptoBulkAll spare + 1
  | .agg parts => uptoBulkAll parts + 1
  | .iface _ d => uptoBulk d + 1
  | .map entries => uptoBulkEntries entries + 1
  | .held _ => 1
def uptoBulkAll {H : Type} : List (DataW H) → Nat
  | [] => 0
  | d :: r => uptoBulk d + uptoBulkAll r
def uptoBulkEntries {H : Type} : List (Lit × DataW H) → Nat
  | [] => 0
  | x :: r => uptoBulkEntry x + uptoBulkEntries r
def uptoBulkEntry {H : Type} : Lit × DataW H → Nat
  | (.string bytes, d) => bytes.length + uptoBulk d + 1
  | (_, d) => uptoBulk d + 1
 end
def uptoSmall : (H : Type) → List (DataW H) → Bool := fun _ ds => decide (uptoBulkAll ds ≤ 1048576)
def OpenSpec.upto (s : _root_.Go.ChangeSpec) : _root_.Go.OpenSpec := { _root_.Go.OpenSpec.ofChange s with cond := some uptoSmall }

/-- 'laws.FnExactInvariantFactors', WHERE WHAT IT READS IS OF BULK AT MOST 1048576: true; the input reads as it did. -/
def fnExactInvariantFactorsUptoRow : OpenClaim := { program := "ytfpcgccnhpfcnaa", sum := "cfc25ee04541fac48dc20314ef81a87463a910f0f6ee341e4cc3322fcb0f12f5", func := "loop.example/g00841/laws.FnExactInvariantFactors", spec := "fnExactInvariantFactors", recurses := true, apart := false, narrowed := true }
def FnExactInvariantFactorsUptoSaid : Prop := fnExactInvariantFactorsUptoRow.holds Try.pinned (OpenSpec.upto fnExactInvariantFactorsSpec)

/-- 'laws.FnExactDropEdge', WHERE WHAT IT READS IS OF BULK AT MOST 1048576: true; the input reads as it did. -/
def fnExactDropEdgeUptoRow : OpenClaim := { program := "ytfpcgccnhpfcnaa", sum := "cfc25ee04541fac48dc20314ef81a87463a910f0f6ee341e4cc3322fcb0f12f5", func := "loop.example/g00841/laws.FnExactDropEdge", spec := "fnExactDropEdge", unfollowed := true, recurses := true, apart := false, narrowed := true }
def FnExactDropEdgeUptoSaid : Prop := fnExactDropEdgeUptoRow.holds Try.pinned (OpenSpec.upto fnExactDropEdgeSpec)

/-- 'laws.FnExactCanonicalOf', WHERE WHAT IT READS IS OF BULK AT MOST 1048576: true; the input reads as it did. -/
def fnExactCanonicalOfUptoRow : OpenClaim := { program := "ytfpcgccnhpfcnaa", sum := "cfc25ee04541fac48dc20314ef81a87463a910f0f6ee341e4cc3322fcb0f12f5", func := "loop.example/g00841/laws.FnExactCanonicalOf", spec := "fnExactCanonicalOf", unfollowed := true, recurses := true, apart := false, narrowed := true }
def FnExactCanonicalOfUptoSaid : Prop := fnExactCanonicalOfUptoRow.holds Try.pinned (OpenSpec.upto fnExactCanonicalOfSpec)

/-- 'laws.FnExactDistancesFrom', WHERE WHAT IT READS IS OF BULK AT MOST 1048576: true; the input reads as it did. -/
def fnExactDistancesFromUptoRow : OpenClaim := { program := "ytfpcgccnhpfcnaa", sum := "cfc25ee04541fac48dc20314ef81a87463a910f0f6ee341e4cc3322fcb0f12f5", func := "loop.example/g00841/laws.FnExactDistancesFrom", spec := "fnExactDistancesFrom", unfollowed := true, recurses := true, apart := false, narrowed := true }
def FnExactDistancesFromUptoSaid : Prop := fnExactDistancesFromUptoRow.holds Try.pinned (OpenSpec.upto fnExactDistancesFromSpec)

/-- 'laws.FnExactFireScript', WHERE WHAT IT READS IS OF BULK AT MOST 1048576: true; the input reads as it did. -/
def fnExactFireScriptUptoRow : OpenClaim := { program := "ytfpcgccnhpfcnaa", sum := "cfc25ee04541fac48dc20314ef81a87463a910f0f6ee341e4cc3322fcb0f12f5", func := "loop.example/g00841/laws.FnExactFireScript", spec := "fnExactFireScript", unfollowed := true, recurses := true, apart := false, narrowed := true }
def FnExactFireScriptUptoSaid : Prop := fnExactFireScriptUptoRow.holds Try.pinned (OpenSpec.upto fnExactFireScriptSpec)

/-- 'laws.FnExactIsLegalSet', WHERE WHAT IT READS IS OF BULK AT MOST 1048576: true; the input reads as it did. -/
def fnExactIsLegalSetUptoRow : OpenClaim := { program := "ytfpcgccnhpfcnaa", sum := "cfc25ee04541fac48dc20314ef81a87463a910f0f6ee341e4cc3322fcb0f12f5", func := "loop.example/g00841/laws.FnExactIsLegalSet", spec := "fnExactIsLegalSet", unfollowed := true, recurses := true, apart := false, narrowed := true }
def FnExactIsLegalSetUptoSaid : Prop := fnExactIsLegalSetUptoRow.holds Try.pinned (OpenSpec.upto fnExactIsLegalSetSpec)

/-- 'laws.FnExactFireSet', WHERE WHAT IT READS IS OF BULK AT MOST 1048576: true; the input reads as it did. -/
def fnExactFireSetUptoRow : OpenClaim := { program := "ytfpcgccnhpfcnaa", sum := "cfc25ee04541fac48dc20314ef81a87463a910f0f6ee341e4cc3322fcb0f12f5", func := "loop.example/g00841/laws.FnExactFireSet", spec := "fnExactFireSet", unfollowed := true, recurses := true, apart := false, narrowed := true }
def FnExactFireSetUptoSaid : Prop := fnExactFireSetUptoRow.holds Try.pinned (OpenSpec.upto fnExactFireSetSpec)

/-- 'laws.FnExactLaplacianOf', WHERE WHAT IT READS IS OF BULK AT MOST 1048576: true; the input reads as it did. -/
def fnExactLaplacianOfUptoRow : OpenClaim := { program := "ytfpcgccnhpfcnaa", sum := "cfc25ee04541fac48dc20314ef81a87463a910f0f6ee341e4cc3322fcb0f12f5", func := "loop.example/g00841/laws.FnExactLaplacianOf", spec := "fnExactLaplacianOf", unfollowed := true, recurses := true, apart := false, narrowed := true }
def FnExactLaplacianOfUptoSaid : Prop := fnExactLaplacianOfUptoRow.holds Try.pinned (OpenSpec.upto fnExactLaplacianOfSpec)

/-- 'laws.FnExactResidualOf', WHERE WHAT IT READS IS OF BULK AT MOST 1048576: true; the input reads as it did. -/
def fnExactResidualOfUptoRow : OpenClaim := { program := "ytfpcgccnhpfcnaa", sum := "cfc25ee04541fac48dc20314ef81a87463a910f0f6ee341e4cc3322fcb0f12f5", func := "loop.example/g00841/laws.FnExactResidualOf", spec := "fnExactResidualOf", unfollowed := true, recurses := true, apart := false, narrowed := true }
def FnExactResidualOfUptoSaid : Prop := fnExactResidualOfUptoRow.holds Try.pinned (OpenSpec.upto fnExactResidualOfSpec)

/-- 'laws.FnExactIsReduced', WHERE WHAT IT READS IS OF BULK AT MOST 1048576: true; the input reads as it did. -/
def fnExactIsReducedUptoRow : OpenClaim := { program := "ytfpcgccnhpfcnaa", sum := "cfc25ee04541fac48dc20314ef81a87463a910f0f6ee341e4cc3322fcb0f12f5", func := "loop.example/g00841/laws.FnExactIsReduced", spec := "fnExactIsReduced", unfollowed := true, recurses := true, apart := false, narrowed := true }
def FnExactIsReducedUptoSaid : Prop := fnExactIsReducedUptoRow.holds Try.pinned (OpenSpec.upto fnExactIsReducedSpec)

/-- 'laws.FnExactBurnFrom', WHERE WHAT IT READS IS OF BULK AT MOST 1048576: true; the input reads as it did. -/
def fnExactBurnFromUptoRow : OpenClaim := { program := "ytfpcgccnhpfcnaa", sum := "cfc25ee04541fac48dc20314ef81a87463a910f0f6ee341e4cc3322fcb0f12f5", func := "loop.example/g00841/laws.FnExactBurnFrom", spec := "fnExactBurnFrom", unfollowed := true, recurses := true, apart := false, narrowed := true }
def FnExactBurnFromUptoSaid : Prop := fnExactBurnFromUptoRow.holds Try.pinned (OpenSpec.upto fnExactBurnFromSpec)

/-- 'laws.FnExactReducedLaplacian', WHERE WHAT IT READS IS OF BULK AT MOST 1048576: true; the input reads as it did. -/
def fnExactReducedLaplacianUptoRow : OpenClaim := { program := "ytfpcgccnhpfcnaa", sum := "cfc25ee04541fac48dc20314ef81a87463a910f0f6ee341e4cc3322fcb0f12f5", func := "loop.example/g00841/laws.FnExactReducedLaplacian", spec := "fnExactReducedLaplacian", unfollowed := true, recurses := true, apart := false, narrowed := true }
def FnExactReducedLaplacianUptoSaid : Prop := fnExactReducedLaplacianUptoRow.holds Try.pinned (OpenSpec.upto fnExactReducedLaplacianSpec)

end Rows
end Go.Proofs.Ytfpcgccnhpfcnaa
