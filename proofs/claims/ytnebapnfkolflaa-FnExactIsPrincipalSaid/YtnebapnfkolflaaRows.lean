/-
  No cell of these rows narrows 'for every input' (looked for: loops, veiled, ifaces, maps, wideKeys, modest, calm, conditions, laid).
  DERIVED. THE GIVEN ROWS OF THIS SEAT. 12 by the template 'for every input the law returns true; each argument reads behind the call as it read before'; 0 by the template 'total and deterministic' (their statements: YtnebapnfkolflaaTotals.lean).
  GIVEN WITH THE SEED: the statements are not yours to turn. If you find one false, say at which input.
  Laid BY PROGRAM, IN A SANDBOX (cutbox-rows.mjs): the forced cells as the released guide's own fill.sh prints them over the translation b7bb6f1b21013d9d… (all of the seat's roots in one cut). By AI agents, Wed Nov 11 2026. No macro, syntax, notation, axiom, sorry.
-/
import Derived.Test.YtnebapnfkolflaaChecked
import GoSem.Claim
import GoSem.ClaimJoined
import GoSem.ClaimMapViews
import Derived.JoinedTies
import Derived.KernelRfl
namespace Go.Proofs.Ytnebapnfkolflaa
/- THE CELL 'sum', in the pinned program and in every row, IS THE sha256 OF THE DUMP (.gsa) THAT YtnebapnfkolflaaProg.lean LOADS. Nothing in Lean hashes anything: it is a label: what it is worth is what the hold of that sum in a sandbox is worth. -/
noncomputable def Try.pinned : Pinned := { name := "ytnebapnfkolflaa", sum := "b7bb6f1b21013d9d52b5d276bc8abebc22fdf3fc6c29a44bcaa458a36ab96997", checked := Try.checked }
namespace Rows
def none {H : Type} : Left H := { results := [], args := [] }

/-- 'laws.FnFactors': WHATEVER THE INPUT: true; the input reads as it did. -/
def fnFactorsSpec : ChangeSpec := { name := "fnFactors", fn := fun _ => fun
  | [d] => { results := [.lit (.bool true)], args := [d] }
  | _ => none }
def fnFactorsRow : OpenClaim := { program := "ytnebapnfkolflaa", sum := "b7bb6f1b21013d9d52b5d276bc8abebc22fdf3fc6c29a44bcaa458a36ab96997", func := "loop.example/g00841/laws.FnFactors", spec := "fnFactors", unfollowed := true, recurses := true, apart := false }
def FnFactorsSaid : Prop := fnFactorsRow.holds Try.pinned (OpenSpec.ofChange fnFactorsSpec)

/-- ITS FALSE NEIGHBOUR: 'it returns false'. Refute it at one input. -/
def fnFactorsWrong : ChangeSpec := { name := "fnFactors", fn := fun _ => fun
  | [d] => { results := [.lit (.bool false)], args := [d] }
  | _ => none }
def FnFactorsWrongFalsely : Prop := fnFactorsRow.holds Try.pinned (OpenSpec.ofChange fnFactorsWrong)

/-- 'laws.FnExactMostLegalSet': WHATEVER THE INPUT: true; the input reads as it did. -/
def fnExactMostLegalSetSpec : ChangeSpec := { name := "fnExactMostLegalSet", fn := fun _ => fun
  | [d1, d2, d3] => { results := [.lit (.bool true)], args := [d1, d2, d3] }
  | _ => none }
def fnExactMostLegalSetRow : OpenClaim := { program := "ytnebapnfkolflaa", sum := "b7bb6f1b21013d9d52b5d276bc8abebc22fdf3fc6c29a44bcaa458a36ab96997", func := "loop.example/g00841/laws.FnExactMostLegalSet", spec := "fnExactMostLegalSet", unfollowed := true, recurses := true, apart := false }
def FnExactMostLegalSetSaid : Prop := fnExactMostLegalSetRow.holds Try.pinned (OpenSpec.ofChange fnExactMostLegalSetSpec)

/-- ITS FALSE NEIGHBOUR: 'it returns false'. Refute it at one input. -/
def fnExactMostLegalSetWrong : ChangeSpec := { name := "fnExactMostLegalSet", fn := fun _ => fun
  | [d1, d2, d3] => { results := [.lit (.bool false)], args := [d1, d2, d3] }
  | _ => none }
def FnExactMostLegalSetWrongFalsely : Prop := fnExactMostLegalSetRow.holds Try.pinned (OpenSpec.ofChange fnExactMostLegalSetWrong)

/-- 'laws.FnExactCountTrees': WHATEVER THE INPUT: true; the input reads as it did. -/
def fnExactCountTreesSpec : ChangeSpec := { name := "fnExactCountTrees", fn := fun _ => fun
  | [d] => { results := [.lit (.bool true)], args := [d] }
  | _ => none }
def fnExactCountTreesRow : OpenClaim := { program := "ytnebapnfkolflaa", sum := "b7bb6f1b21013d9d52b5d276bc8abebc22fdf3fc6c29a44bcaa458a36ab96997", func := "loop.example/g00841/laws.FnExactCountTrees", spec := "fnExactCountTrees", unfollowed := true, recurses := true, apart := false }
def FnExactCountTreesSaid : Prop := fnExactCountTreesRow.holds Try.pinned (OpenSpec.ofChange fnExactCountTreesSpec)

/-- ITS FALSE NEIGHBOUR: 'it returns false'. Refute it at one input. -/
def fnExactCountTreesWrong : ChangeSpec := { name := "fnExactCountTrees", fn := fun _ => fun
  | [d] => { results := [.lit (.bool false)], args := [d] }
  | _ => none }
def FnExactCountTreesWrongFalsely : Prop := fnExactCountTreesRow.holds Try.pinned (OpenSpec.ofChange fnExactCountTreesWrong)

/-- 'laws.FnExactGroupOrder': WHATEVER THE INPUT: true; the input reads as it did. -/
def fnExactGroupOrderSpec : ChangeSpec := { name := "fnExactGroupOrder", fn := fun _ => fun
  | [d] => { results := [.lit (.bool true)], args := [d] }
  | _ => none }
def fnExactGroupOrderRow : OpenClaim := { program := "ytnebapnfkolflaa", sum := "b7bb6f1b21013d9d52b5d276bc8abebc22fdf3fc6c29a44bcaa458a36ab96997", func := "loop.example/g00841/laws.FnExactGroupOrder", spec := "fnExactGroupOrder", unfollowed := true, recurses := true, apart := false }
def FnExactGroupOrderSaid : Prop := fnExactGroupOrderRow.holds Try.pinned (OpenSpec.ofChange fnExactGroupOrderSpec)

/-- ITS FALSE NEIGHBOUR: 'it returns false'. Refute it at one input. -/
def fnExactGroupOrderWrong : ChangeSpec := { name := "fnExactGroupOrder", fn := fun _ => fun
  | [d] => { results := [.lit (.bool false)], args := [d] }
  | _ => none }
def FnExactGroupOrderWrongFalsely : Prop := fnExactGroupOrderRow.holds Try.pinned (OpenSpec.ofChange fnExactGroupOrderWrong)

/-- 'laws.FnExactDifferenceClass': WHATEVER THE INPUT: true; the input reads as it did. -/
def fnExactDifferenceClassSpec : ChangeSpec := { name := "fnExactDifferenceClass", fn := fun _ => fun
  | [d1, d2, d3] => { results := [.lit (.bool true)], args := [d1, d2, d3] }
  | _ => none }
def fnExactDifferenceClassRow : OpenClaim := { program := "ytnebapnfkolflaa", sum := "b7bb6f1b21013d9d52b5d276bc8abebc22fdf3fc6c29a44bcaa458a36ab96997", func := "loop.example/g00841/laws.FnExactDifferenceClass", spec := "fnExactDifferenceClass", unfollowed := true, recurses := true, apart := false }
def FnExactDifferenceClassSaid : Prop := fnExactDifferenceClassRow.holds Try.pinned (OpenSpec.ofChange fnExactDifferenceClassSpec)

/-- ITS FALSE NEIGHBOUR: 'it returns false'. Refute it at one input. -/
def fnExactDifferenceClassWrong : ChangeSpec := { name := "fnExactDifferenceClass", fn := fun _ => fun
  | [d1, d2, d3] => { results := [.lit (.bool false)], args := [d1, d2, d3] }
  | _ => none }
def FnExactDifferenceClassWrongFalsely : Prop := fnExactDifferenceClassRow.holds Try.pinned (OpenSpec.ofChange fnExactDifferenceClassWrong)

/-- 'laws.FnExactChipsAt': WHATEVER THE INPUT: true; the input reads as it did. -/
def fnExactChipsAtSpec : ChangeSpec := { name := "fnExactChipsAt", fn := fun _ => fun
  | [d1, d2, d3] => { results := [.lit (.bool true)], args := [d1, d2, d3] }
  | _ => none }
def fnExactChipsAtRow : OpenClaim := { program := "ytnebapnfkolflaa", sum := "b7bb6f1b21013d9d52b5d276bc8abebc22fdf3fc6c29a44bcaa458a36ab96997", func := "loop.example/g00841/laws.FnExactChipsAt", spec := "fnExactChipsAt", unfollowed := true, recurses := true, apart := false }
def FnExactChipsAtSaid : Prop := fnExactChipsAtRow.holds Try.pinned (OpenSpec.ofChange fnExactChipsAtSpec)

/-- ITS FALSE NEIGHBOUR: 'it returns false'. Refute it at one input. -/
def fnExactChipsAtWrong : ChangeSpec := { name := "fnExactChipsAt", fn := fun _ => fun
  | [d1, d2, d3] => { results := [.lit (.bool false)], args := [d1, d2, d3] }
  | _ => none }
def FnExactChipsAtWrongFalsely : Prop := fnExactChipsAtRow.holds Try.pinned (OpenSpec.ofChange fnExactChipsAtWrong)

/-- 'laws.FnExactIsWinnable': WHATEVER THE INPUT: true; the input reads as it did. -/
def fnExactIsWinnableSpec : ChangeSpec := { name := "fnExactIsWinnable", fn := fun _ => fun
  | [d1, d2] => { results := [.lit (.bool true)], args := [d1, d2] }
  | _ => none }
def fnExactIsWinnableRow : OpenClaim := { program := "ytnebapnfkolflaa", sum := "b7bb6f1b21013d9d52b5d276bc8abebc22fdf3fc6c29a44bcaa458a36ab96997", func := "loop.example/g00841/laws.FnExactIsWinnable", spec := "fnExactIsWinnable", unfollowed := true, recurses := true, apart := false }
def FnExactIsWinnableSaid : Prop := fnExactIsWinnableRow.holds Try.pinned (OpenSpec.ofChange fnExactIsWinnableSpec)

/-- ITS FALSE NEIGHBOUR: 'it returns false'. Refute it at one input. -/
def fnExactIsWinnableWrong : ChangeSpec := { name := "fnExactIsWinnable", fn := fun _ => fun
  | [d1, d2] => { results := [.lit (.bool false)], args := [d1, d2] }
  | _ => none }
def FnExactIsWinnableWrongFalsely : Prop := fnExactIsWinnableRow.holds Try.pinned (OpenSpec.ofChange fnExactIsWinnableWrong)

/-- 'laws.FnExactReducedOf': WHATEVER THE INPUT: true; the input reads as it did. -/
def fnExactReducedOfSpec : ChangeSpec := { name := "fnExactReducedOf", fn := fun _ => fun
  | [d1, d2, d3] => { results := [.lit (.bool true)], args := [d1, d2, d3] }
  | _ => none }
def fnExactReducedOfRow : OpenClaim := { program := "ytnebapnfkolflaa", sum := "b7bb6f1b21013d9d52b5d276bc8abebc22fdf3fc6c29a44bcaa458a36ab96997", func := "loop.example/g00841/laws.FnExactReducedOf", spec := "fnExactReducedOf", unfollowed := true, recurses := true, apart := false }
def FnExactReducedOfSaid : Prop := fnExactReducedOfRow.holds Try.pinned (OpenSpec.ofChange fnExactReducedOfSpec)

/-- ITS FALSE NEIGHBOUR: 'it returns false'. Refute it at one input. -/
def fnExactReducedOfWrong : ChangeSpec := { name := "fnExactReducedOf", fn := fun _ => fun
  | [d1, d2, d3] => { results := [.lit (.bool false)], args := [d1, d2, d3] }
  | _ => none }
def FnExactReducedOfWrongFalsely : Prop := fnExactReducedOfRow.holds Try.pinned (OpenSpec.ofChange fnExactReducedOfWrong)

/-- 'laws.FnExactReducingScript': WHATEVER THE INPUT: true; the input reads as it did. -/
def fnExactReducingScriptSpec : ChangeSpec := { name := "fnExactReducingScript", fn := fun _ => fun
  | [d1, d2, d3] => { results := [.lit (.bool true)], args := [d1, d2, d3] }
  | _ => none }
def fnExactReducingScriptRow : OpenClaim := { program := "ytnebapnfkolflaa", sum := "b7bb6f1b21013d9d52b5d276bc8abebc22fdf3fc6c29a44bcaa458a36ab96997", func := "loop.example/g00841/laws.FnExactReducingScript", spec := "fnExactReducingScript", unfollowed := true, recurses := true, apart := false }
def FnExactReducingScriptSaid : Prop := fnExactReducingScriptRow.holds Try.pinned (OpenSpec.ofChange fnExactReducingScriptSpec)

/-- ITS FALSE NEIGHBOUR: 'it returns false'. Refute it at one input. -/
def fnExactReducingScriptWrong : ChangeSpec := { name := "fnExactReducingScript", fn := fun _ => fun
  | [d1, d2, d3] => { results := [.lit (.bool false)], args := [d1, d2, d3] }
  | _ => none }
def FnExactReducingScriptWrongFalsely : Prop := fnExactReducingScriptRow.holds Try.pinned (OpenSpec.ofChange fnExactReducingScriptWrong)

/-- 'laws.FnExactRepresentativeOf': WHATEVER THE INPUT: true; the input reads as it did. -/
def fnExactRepresentativeOfSpec : ChangeSpec := { name := "fnExactRepresentativeOf", fn := fun _ => fun
  | [d1, d2] => { results := [.lit (.bool true)], args := [d1, d2] }
  | _ => none }
def fnExactRepresentativeOfRow : OpenClaim := { program := "ytnebapnfkolflaa", sum := "b7bb6f1b21013d9d52b5d276bc8abebc22fdf3fc6c29a44bcaa458a36ab96997", func := "loop.example/g00841/laws.FnExactRepresentativeOf", spec := "fnExactRepresentativeOf", unfollowed := true, recurses := true, apart := false }
def FnExactRepresentativeOfSaid : Prop := fnExactRepresentativeOfRow.holds Try.pinned (OpenSpec.ofChange fnExactRepresentativeOfSpec)

/-- ITS FALSE NEIGHBOUR: 'it returns false'. Refute it at one input. -/
def fnExactRepresentativeOfWrong : ChangeSpec := { name := "fnExactRepresentativeOf", fn := fun _ => fun
  | [d1, d2] => { results := [.lit (.bool false)], args := [d1, d2] }
  | _ => none }
def FnExactRepresentativeOfWrongFalsely : Prop := fnExactRepresentativeOfRow.holds Try.pinned (OpenSpec.ofChange fnExactRepresentativeOfWrong)

/-- 'laws.FnExactAreEquivalent': WHATEVER THE INPUT: true; the input reads as it did. -/
def fnExactAreEquivalentSpec : ChangeSpec := { name := "fnExactAreEquivalent", fn := fun _ => fun
  | [d1, d2, d3] => { results := [.lit (.bool true)], args := [d1, d2, d3] }
  | _ => none }
def fnExactAreEquivalentRow : OpenClaim := { program := "ytnebapnfkolflaa", sum := "b7bb6f1b21013d9d52b5d276bc8abebc22fdf3fc6c29a44bcaa458a36ab96997", func := "loop.example/g00841/laws.FnExactAreEquivalent", spec := "fnExactAreEquivalent", unfollowed := true, recurses := true, apart := false }
def FnExactAreEquivalentSaid : Prop := fnExactAreEquivalentRow.holds Try.pinned (OpenSpec.ofChange fnExactAreEquivalentSpec)

/-- ITS FALSE NEIGHBOUR: 'it returns false'. Refute it at one input. -/
def fnExactAreEquivalentWrong : ChangeSpec := { name := "fnExactAreEquivalent", fn := fun _ => fun
  | [d1, d2, d3] => { results := [.lit (.bool false)], args := [d1, d2, d3] }
  | _ => none }
def FnExactAreEquivalentWrongFalsely : Prop := fnExactAreEquivalentRow.holds Try.pinned (OpenSpec.ofChange fnExactAreEquivalentWrong)

/-- 'laws.FnExactIsPrincipal': WHATEVER THE INPUT: true; the input reads as it did. -/
def fnExactIsPrincipalSpec : ChangeSpec := { name := "fnExactIsPrincipal", fn := fun _ => fun
  | [d1, d2] => { results := [.lit (.bool true)], args := [d1, d2] }
  | _ => none }
def fnExactIsPrincipalRow : OpenClaim := { program := "ytnebapnfkolflaa", sum := "b7bb6f1b21013d9d52b5d276bc8abebc22fdf3fc6c29a44bcaa458a36ab96997", func := "loop.example/g00841/laws.FnExactIsPrincipal", spec := "fnExactIsPrincipal", unfollowed := true, recurses := true, apart := false }
def FnExactIsPrincipalSaid : Prop := fnExactIsPrincipalRow.holds Try.pinned (OpenSpec.ofChange fnExactIsPrincipalSpec)

/-- ITS FALSE NEIGHBOUR: 'it returns false'. Refute it at one input. -/
def fnExactIsPrincipalWrong : ChangeSpec := { name := "fnExactIsPrincipal", fn := fun _ => fun
  | [d1, d2] => { results := [.lit (.bool false)], args := [d1, d2] }
  | _ => none }
def FnExactIsPrincipalWrongFalsely : Prop := fnExactIsPrincipalRow.holds Try.pinned (OpenSpec.ofChange fnExactIsPrincipalWrong)

/- THE SECOND FORM. 'bulk': how many values and letters a reading holds, each counted each time it is reached (what is shared counts as often as it is met; a slice's spare places count too). A statement '..UptoSaid' is the law's where the arguments, and the package variables that the reading takes, are together of bulk at most 1048576: NARROWER than '..Said'. Prove '..Said' where nothing that the law and all that it calls make is longer than what came in: it says more and counts as full. Else prove '..UptoSaid'. A law counts once. -/
mutual
def uptoBulk {H : Type} : DataW H → Nat
  | .lit (.string bytes) => bytes.length + 1
  | .lit _ => 1
  | .nil => 1
  | .ptr d => uptoBulk d + 1
  | .slice elems spare => uptoBulkAll elems + uptoBulkAll spare + 1
  | .agg parts => uptoBulkAll parts + 1
  | .iface _ d => uptoBulk d + 1
  | .map entries => uptoBulkEntries entries + 1
  | .held _ => 1
def uptoBulkAll {H : Type} : List (DataW H) → Nat
  | [] => 0
  | d :: r => uptoBulk d + uptoBulkAll r
def uptoBulkEntries {H : Type} : List (Lit × DataW H) → Nat
  | [] => 0
  | x :: r => uptoBulkEntry x + uptoBulkEntries r
def uptoBulkEntry {H : Type} : Lit × DataW H → Nat
  | (.string bytes, d) => bytes.length + uptoBulk d + 1
  | (_, d) => uptoBulk d + 1
 end
def uptoSmall : (H : Type) → List (DataW H) → Bool := fun _ ds => decide (uptoBulkAll ds ≤ 1048576)
def OpenSpec.upto (s : _root_.Go.ChangeSpec) : _root_.Go.OpenSpec := { _root_.Go.OpenSpec.ofChange s with cond := some uptoSmall }

/-- 'laws.FnFactors', WHERE WHAT IT READS IS OF BULK AT MOST 1048576: true; the input reads as it did. -/
def fnFactorsUptoRow : OpenClaim := { program := "ytnebapnfkolflaa", sum := "b7bb6f1b21013d9d52b5d276bc8abebc22fdf3fc6c29a44bcaa458a36ab96997", func := "loop.example/g00841/laws.FnFactors", spec := "fnFactors", unfollowed := true, recurses := true, apart := false, narrowed := true }
def FnFactorsUptoSaid : Prop := fnFactorsUptoRow.holds Try.pinned (OpenSpec.upto fnFactorsSpec)

/-- 'laws.FnExactMostLegalSet', WHERE WHAT IT READS IS OF BULK AT MOST 1048576: true; the input reads as it did. -/
def fnExactMostLegalSetUptoRow : OpenClaim := { program := "ytnebapnfkolflaa", sum := "b7bb6f1b21013d9d52b5d276bc8abebc22fdf3fc6c29a44bcaa458a36ab96997", func := "loop.example/g00841/laws.FnExactMostLegalSet", spec := "fnExactMostLegalSet", unfollowed := true, recurses := true, apart := false, narrowed := true }
def FnExactMostLegalSetUptoSaid : Prop := fnExactMostLegalSetUptoRow.holds Try.pinned (OpenSpec.upto fnExactMostLegalSetSpec)

/-- 'laws.FnExactCountTrees', WHERE WHAT IT READS IS OF BULK AT MOST 1048576: true; the input reads as it did. -/
def fnExactCountTreesUptoRow : OpenClaim := { program := "ytnebapnfkolflaa", sum := "b7bb6f1b21013d9d52b5d276bc8abebc22fdf3fc6c29a44bcaa458a36ab96997", func := "loop.example/g00841/laws.FnExactCountTrees", spec := "fnExactCountTrees", unfollowed := true, recurses := true, apart := false, narrowed := true }
def FnExactCountTreesUptoSaid : Prop := fnExactCountTreesUptoRow.holds Try.pinned (OpenSpec.upto fnExactCountTreesSpec)

/-- 'laws.FnExactGroupOrder', WHERE WHAT IT READS IS OF BULK AT MOST 1048576: true; the input reads as it did. -/
def fnExactGroupOrderUptoRow : OpenClaim := { program := "ytnebapnfkolflaa", sum := "b7bb6f1b21013d9d52b5d276bc8abebc22fdf3fc6c29a44bcaa458a36ab96997", func := "loop.example/g00841/laws.FnExactGroupOrder", spec := "fnExactGroupOrder", unfollowed := true, recurses := true, apart := false, narrowed := true }
def FnExactGroupOrderUptoSaid : Prop := fnExactGroupOrderUptoRow.holds Try.pinned (OpenSpec.upto fnExactGroupOrderSpec)

/-- 'laws.FnExactDifferenceClass', WHERE WHAT IT READS IS OF BULK AT MOST 1048576: true; the input reads as it did. -/
def fnExactDifferenceClassUptoRow : OpenClaim := { program := "ytnebapnfkolflaa", sum := "b7bb6f1b21013d9d52b5d276bc8abebc22fdf3fc6c29a44bcaa458a36ab96997", func := "loop.example/g00841/laws.FnExactDifferenceClass", spec := "fnExactDifferenceClass", unfollowed := true, recurses := true, apart := false, narrowed := true }
def FnExactDifferenceClassUptoSaid : Prop := fnExactDifferenceClassUptoRow.holds Try.pinned (OpenSpec.upto fnExactDifferenceClassSpec)

/-- 'laws.FnExactChipsAt', WHERE WHAT IT READS IS OF BULK AT MOST 1048576: true; the input reads as it did. -/
def fnExactChipsAtUptoRow : OpenClaim := { program := "ytnebapnfkolflaa", sum := "b7bb6f1b21013d9d52b5d276bc8abebc22fdf3fc6c29a44bcaa458a36ab96997", func := "loop.example/g00841/laws.FnExactChipsAt", spec := "fnExactChipsAt", unfollowed := true, recurses := true, apart := false, narrowed := true }
def FnExactChipsAtUptoSaid : Prop := fnExactChipsAtUptoRow.holds Try.pinned (OpenSpec.upto fnExactChipsAtSpec)

/-- 'laws.FnExactIsWinnable', WHERE WHAT IT READS IS OF BULK AT MOST 1048576: true; the input reads as it did. -/
def fnExactIsWinnableUptoRow : OpenClaim := { program := "ytnebapnfkolflaa", sum := "b7bb6f1b21013d9d52b5d276bc8abebc22fdf3fc6c29a44bcaa458a36ab96997", func := "loop.example/g00841/laws.FnExactIsWinnable", spec := "fnExactIsWinnable", unfollowed := true, recurses := true, apart := false, narrowed := true }
def FnExactIsWinnableUptoSaid : Prop := fnExactIsWinnableUptoRow.holds Try.pinned (OpenSpec.upto fnExactIsWinnableSpec)

/-- 'laws.FnExactReducedOf', WHERE WHAT IT READS IS OF BULK AT MOST 1048576: true; the input reads as it did. -/
def fnExactReducedOfUptoRow : OpenClaim := { program := "ytnebapnfkolflaa", sum := "b7bb6f1b21013d9d52b5d276bc8abebc22fdf3fc6c29a44bcaa458a36ab96997", func := "loop.example/g00841/laws.FnExactReducedOf", spec := "fnExactReducedOf", unfollowed := true, recurses := true, apart := false, narrowed := true }
def FnExactReducedOfUptoSaid : Prop := fnExactReducedOfUptoRow.holds Try.pinned (OpenSpec.upto fnExactReducedOfSpec)

/-- 'laws.FnExactReducingScript', WHERE WHAT IT READS IS OF BULK AT MOST 1048576: true; the input reads as it did. -/
def fnExactReducingScriptUptoRow : OpenClaim := { program := "ytnebapnfkolflaa", sum := "b7bb6f1b21013d9d52b5d276bc8abebc22fdf3fc6c29a44bcaa458a36ab96997", func := "loop.example/g00841/laws.FnExactReducingScript", spec := "fnExactReducingScript", unfollowed := true, recurses := true, apart := false, narrowed := true }
def FnExactReducingScriptUptoSaid : Prop := fnExactReducingScriptUptoRow.holds Try.pinned (OpenSpec.upto fnExactReducingScriptSpec)

/-- 'laws.FnExactRepresentativeOf', WHERE WHAT IT READS IS OF BULK AT MOST 1048576: true; the input reads as it did. -/
def fnExactRepresentativeOfUptoRow : OpenClaim := { program := "ytnebapnfkolflaa", sum := "b7bb6f1b21013d9d52b5d276bc8abebc22fdf3fc6c29a44bcaa458a36ab96997", func := "loop.example/g00841/laws.FnExactRepresentativeOf", spec := "fnExactRepresentativeOf", unfollowed := true, recurses := true, apart := false, narrowed := true }
def FnExactRepresentativeOfUptoSaid : Prop := fnExactRepresentativeOfUptoRow.holds Try.pinned (OpenSpec.upto fnExactRepresentativeOfSpec)

/-- 'laws.FnExactAreEquivalent', WHERE WHAT IT READS IS OF BULK AT MOST 1048576: true; the input reads as it did. -/
def fnExactAreEquivalentUptoRow : OpenClaim := { program := "ytnebapnfkolflaa", sum := "b7bb6f1b21013d9d52b5d276bc8abebc22fdf3fc6c29a44bcaa458a36ab96997", func := "loop.example/g00841/laws.FnExactAreEquivalent", spec := "fnExactAreEquivalent", unfollowed := true, recurses := true, apart := false, narrowed := true }
def FnExactAreEquivalentUptoSaid : Prop := fnExactAreEquivalentUptoRow.holds Try.pinned (OpenSpec.upto fnExactAreEquivalentSpec)

/-- 'laws.FnExactIsPrincipal', WHERE WHAT IT READS IS OF BULK AT MOST 1048576: true; the input reads as it did. -/
def fnExactIsPrincipalUptoRow : OpenClaim := { program := "ytnebapnfkolflaa", sum := "b7bb6f1b21013d9d52b5d276bc8abebc22fdf3fc6c29a44bcaa458a36ab96997", func := "loop.example/g00841/laws.FnExactIsPrincipal", spec := "fnExactIsPrincipal", unfollowed := true, recurses := true, apart := false, narrowed := true }
def FnExactIsPrincipalUptoSaid : Prop := fnExactIsPrincipalUptoRow.holds Try.pinned (OpenSpec.upto fnExactIsPrincipalSpec)

end Rows
end Go.Proofs.Ytnebapnfkolflaa
