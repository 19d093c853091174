/-
  No cell of these rows narrows 'for every input' (looked for: loops, veiled, ifaces, maps, wideKeys, modest, calm, conditions, laid).
  DERIVED. THE GIVEN ROWS OF THIS SEAT. 12 by the template 'for every input the law returns true; each argument reads behind the call as it read before'; 0 by the template 'total and deterministic' (their statements: YtkdhjeimcnackaaTotals.lean).
  GIVEN WITH THE SEED: the statements are not yours to turn. If you find one false, say at which input.
  Laid BY PROGRAM, IN A SANDBOX (cutbox-rows.mjs): the forced cells as the released guide's own fill.sh prints them over the translation 220e806b8b19629d… (all of the seat's roots in one cut). By AI agents, Wed Nov 11 2026. No macro, syntax, notation, axiom, sorry.
-/
import Derived.Test.YtkdhjeimcnackaaChecked
import GoSem.Claim
import GoSem.ClaimJoined
import GoSem.ClaimMapViews
import Derived.JoinedTies
import Derived.KernelRfl
namespace Go.Proofs.Ytkdhjeimcnackaa
/- THE CELL 'sum', in the pinned program and in every row, IS THE sha256 OF THE DUMP (.gsa) THAT YtkdhjeimcnackaaProg.lean LOADS. Nothing in Lean hashes anything: it is a label: what it is worth is what the hold of that sum in a sandbox is worth. -/
noncomputable def Try.pinned : Pinned := { name := "ytkdhjeimcnackaa", sum := "220e806b8b19629df58b11bc786d41d7bafe095d978a164df55046b63bd230da", checked := Try.checked }
namespace Rows
def none {H : Type} : Left H := { results := [], args := [] }

/-- 'laws.FnExactSameGraph': WHATEVER THE INPUT: true; the input reads as it did. -/
def fnExactSameGraphSpec : ChangeSpec := { name := "fnExactSameGraph", fn := fun _ => fun
  | [d1, d2] => { results := [.lit (.bool true)], args := [d1, d2] }
  | _ => none }
def fnExactSameGraphRow : OpenClaim := { program := "ytkdhjeimcnackaa", sum := "220e806b8b19629df58b11bc786d41d7bafe095d978a164df55046b63bd230da", func := "loop.example/g00841/laws.FnExactSameGraph", spec := "fnExactSameGraph", apart := false }
def FnExactSameGraphSaid : Prop := fnExactSameGraphRow.holds Try.pinned (OpenSpec.ofChange fnExactSameGraphSpec)

/-- ITS FALSE NEIGHBOUR: 'it returns false'. Refute it at one input. -/
def fnExactSameGraphWrong : ChangeSpec := { name := "fnExactSameGraph", fn := fun _ => fun
  | [d1, d2] => { results := [.lit (.bool false)], args := [d1, d2] }
  | _ => none }
def FnExactSameGraphWrongFalsely : Prop := fnExactSameGraphRow.holds Try.pinned (OpenSpec.ofChange fnExactSameGraphWrong)

/-- 'laws.FnExactEdgesOk': WHATEVER THE INPUT: true; the input reads as it did. -/
def fnExactEdgesOkSpec : ChangeSpec := { name := "fnExactEdgesOk", fn := fun _ => fun
  | [d] => { results := [.lit (.bool true)], args := [d] }
  | _ => none }
def fnExactEdgesOkRow : OpenClaim := { program := "ytkdhjeimcnackaa", sum := "220e806b8b19629df58b11bc786d41d7bafe095d978a164df55046b63bd230da", func := "loop.example/g00841/laws.FnExactEdgesOk", spec := "fnExactEdgesOk", apart := false }
def FnExactEdgesOkSaid : Prop := fnExactEdgesOkRow.holds Try.pinned (OpenSpec.ofChange fnExactEdgesOkSpec)

/-- ITS FALSE NEIGHBOUR: 'it returns false'. Refute it at one input. -/
def fnExactEdgesOkWrong : ChangeSpec := { name := "fnExactEdgesOk", fn := fun _ => fun
  | [d] => { results := [.lit (.bool false)], args := [d] }
  | _ => none }
def FnExactEdgesOkWrongFalsely : Prop := fnExactEdgesOkRow.holds Try.pinned (OpenSpec.ofChange fnExactEdgesOkWrong)

/-- 'laws.FnExactMultiplicity': WHATEVER THE INPUT: true; the input reads as it did. -/
def fnExactMultiplicitySpec : ChangeSpec := { name := "fnExactMultiplicity", fn := fun _ => fun
  | [d1, d2, d3] => { results := [.lit (.bool true)], args := [d1, d2, d3] }
  | _ => none }
def fnExactMultiplicityRow : OpenClaim := { program := "ytkdhjeimcnackaa", sum := "220e806b8b19629df58b11bc786d41d7bafe095d978a164df55046b63bd230da", func := "loop.example/g00841/laws.FnExactMultiplicity", spec := "fnExactMultiplicity", apart := false }
def FnExactMultiplicitySaid : Prop := fnExactMultiplicityRow.holds Try.pinned (OpenSpec.ofChange fnExactMultiplicitySpec)

/-- ITS FALSE NEIGHBOUR: 'it returns false'. Refute it at one input. -/
def fnExactMultiplicityWrong : ChangeSpec := { name := "fnExactMultiplicity", fn := fun _ => fun
  | [d1, d2, d3] => { results := [.lit (.bool false)], args := [d1, d2, d3] }
  | _ => none }
def FnExactMultiplicityWrongFalsely : Prop := fnExactMultiplicityRow.holds Try.pinned (OpenSpec.ofChange fnExactMultiplicityWrong)

/-- 'laws.FnExactValence': WHATEVER THE INPUT: true; the input reads as it did. -/
def fnExactValenceSpec : ChangeSpec := { name := "fnExactValence", fn := fun _ => fun
  | [d1, d2] => { results := [.lit (.bool true)], args := [d1, d2] }
  | _ => none }
def fnExactValenceRow : OpenClaim := { program := "ytkdhjeimcnackaa", sum := "220e806b8b19629df58b11bc786d41d7bafe095d978a164df55046b63bd230da", func := "loop.example/g00841/laws.FnExactValence", spec := "fnExactValence", apart := false }
def FnExactValenceSaid : Prop := fnExactValenceRow.holds Try.pinned (OpenSpec.ofChange fnExactValenceSpec)

/-- ITS FALSE NEIGHBOUR: 'it returns false'. Refute it at one input. -/
def fnExactValenceWrong : ChangeSpec := { name := "fnExactValence", fn := fun _ => fun
  | [d1, d2] => { results := [.lit (.bool false)], args := [d1, d2] }
  | _ => none }
def FnExactValenceWrongFalsely : Prop := fnExactValenceRow.holds Try.pinned (OpenSpec.ofChange fnExactValenceWrong)

/-- 'laws.FnExactMatrixOk': WHATEVER THE INPUT: true; the input reads as it did. -/
def fnExactMatrixOkSpec : ChangeSpec := { name := "fnExactMatrixOk", fn := fun _ => fun
  | [d] => { results := [.lit (.bool true)], args := [d] }
  | _ => none }
def fnExactMatrixOkRow : OpenClaim := { program := "ytkdhjeimcnackaa", sum := "220e806b8b19629df58b11bc786d41d7bafe095d978a164df55046b63bd230da", func := "loop.example/g00841/laws.FnExactMatrixOk", spec := "fnExactMatrixOk", apart := false }
def FnExactMatrixOkSaid : Prop := fnExactMatrixOkRow.holds Try.pinned (OpenSpec.ofChange fnExactMatrixOkSpec)

/-- ITS FALSE NEIGHBOUR: 'it returns false'. Refute it at one input. -/
def fnExactMatrixOkWrong : ChangeSpec := { name := "fnExactMatrixOk", fn := fun _ => fun
  | [d] => { results := [.lit (.bool false)], args := [d] }
  | _ => none }
def FnExactMatrixOkWrongFalsely : Prop := fnExactMatrixOkRow.holds Try.pinned (OpenSpec.ofChange fnExactMatrixOkWrong)

/-- 'laws.FnExactTimesVector': WHATEVER THE INPUT: true; the input reads as it did. -/
def fnExactTimesVectorSpec : ChangeSpec := { name := "fnExactTimesVector", fn := fun _ => fun
  | [d1, d2] => { results := [.lit (.bool true)], args := [d1, d2] }
  | _ => none }
def fnExactTimesVectorRow : OpenClaim := { program := "ytkdhjeimcnackaa", sum := "220e806b8b19629df58b11bc786d41d7bafe095d978a164df55046b63bd230da", func := "loop.example/g00841/laws.FnExactTimesVector", spec := "fnExactTimesVector", apart := false }
def FnExactTimesVectorSaid : Prop := fnExactTimesVectorRow.holds Try.pinned (OpenSpec.ofChange fnExactTimesVectorSpec)

/-- ITS FALSE NEIGHBOUR: 'it returns false'. Refute it at one input. -/
def fnExactTimesVectorWrong : ChangeSpec := { name := "fnExactTimesVector", fn := fun _ => fun
  | [d1, d2] => { results := [.lit (.bool false)], args := [d1, d2] }
  | _ => none }
def FnExactTimesVectorWrongFalsely : Prop := fnExactTimesVectorRow.holds Try.pinned (OpenSpec.ofChange fnExactTimesVectorWrong)

/-- 'laws.FnExactDeterminant': WHATEVER THE INPUT: true; the input reads as it did. -/
def fnExactDeterminantSpec : ChangeSpec := { name := "fnExactDeterminant", fn := fun _ => fun
  | [d] => { results := [.lit (.bool true)], args := [d] }
  | _ => none }
def fnExactDeterminantRow : OpenClaim := { program := "ytkdhjeimcnackaa", sum := "220e806b8b19629df58b11bc786d41d7bafe095d978a164df55046b63bd230da", func := "loop.example/g00841/laws.FnExactDeterminant", spec := "fnExactDeterminant", recurses := true, apart := false }
def FnExactDeterminantSaid : Prop := fnExactDeterminantRow.holds Try.pinned (OpenSpec.ofChange fnExactDeterminantSpec)

/-- ITS FALSE NEIGHBOUR: 'it returns false'. Refute it at one input. -/
def fnExactDeterminantWrong : ChangeSpec := { name := "fnExactDeterminant", fn := fun _ => fun
  | [d] => { results := [.lit (.bool false)], args := [d] }
  | _ => none }
def FnExactDeterminantWrongFalsely : Prop := fnExactDeterminantRow.holds Try.pinned (OpenSpec.ofChange fnExactDeterminantWrong)

/-- 'laws.FnExactGraphOk': WHATEVER THE INPUT: true; the input reads as it did. -/
def fnExactGraphOkSpec : ChangeSpec := { name := "fnExactGraphOk", fn := fun _ => fun
  | [d] => { results := [.lit (.bool true)], args := [d] }
  | _ => none }
def fnExactGraphOkRow : OpenClaim := { program := "ytkdhjeimcnackaa", sum := "220e806b8b19629df58b11bc786d41d7bafe095d978a164df55046b63bd230da", func := "loop.example/g00841/laws.FnExactGraphOk", spec := "fnExactGraphOk", unfollowed := true, recurses := true, apart := false }
def FnExactGraphOkSaid : Prop := fnExactGraphOkRow.holds Try.pinned (OpenSpec.ofChange fnExactGraphOkSpec)

/-- ITS FALSE NEIGHBOUR: 'it returns false'. Refute it at one input. -/
def fnExactGraphOkWrong : ChangeSpec := { name := "fnExactGraphOk", fn := fun _ => fun
  | [d] => { results := [.lit (.bool false)], args := [d] }
  | _ => none }
def FnExactGraphOkWrongFalsely : Prop := fnExactGraphOkRow.holds Try.pinned (OpenSpec.ofChange fnExactGraphOkWrong)

/-- 'laws.FnExactGenusOf': WHATEVER THE INPUT: true; the input reads as it did. -/
def fnExactGenusOfSpec : ChangeSpec := { name := "fnExactGenusOf", fn := fun _ => fun
  | [d] => { results := [.lit (.bool true)], args := [d] }
  | _ => none }
def fnExactGenusOfRow : OpenClaim := { program := "ytkdhjeimcnackaa", sum := "220e806b8b19629df58b11bc786d41d7bafe095d978a164df55046b63bd230da", func := "loop.example/g00841/laws.FnExactGenusOf", spec := "fnExactGenusOf", unfollowed := true, recurses := true, apart := false }
def FnExactGenusOfSaid : Prop := fnExactGenusOfRow.holds Try.pinned (OpenSpec.ofChange fnExactGenusOfSpec)

/-- ITS FALSE NEIGHBOUR: 'it returns false'. Refute it at one input. -/
def fnExactGenusOfWrong : ChangeSpec := { name := "fnExactGenusOf", fn := fun _ => fun
  | [d] => { results := [.lit (.bool false)], args := [d] }
  | _ => none }
def FnExactGenusOfWrongFalsely : Prop := fnExactGenusOfRow.holds Try.pinned (OpenSpec.ofChange fnExactGenusOfWrong)

/-- 'laws.FnExactDivisorOk': WHATEVER THE INPUT: true; the input reads as it did. -/
def fnExactDivisorOkSpec : ChangeSpec := { name := "fnExactDivisorOk", fn := fun _ => fun
  | [d1, d2] => { results := [.lit (.bool true)], args := [d1, d2] }
  | _ => none }
def fnExactDivisorOkRow : OpenClaim := { program := "ytkdhjeimcnackaa", sum := "220e806b8b19629df58b11bc786d41d7bafe095d978a164df55046b63bd230da", func := "loop.example/g00841/laws.FnExactDivisorOk", spec := "fnExactDivisorOk", unfollowed := true, recurses := true, apart := false }
def FnExactDivisorOkSaid : Prop := fnExactDivisorOkRow.holds Try.pinned (OpenSpec.ofChange fnExactDivisorOkSpec)

/-- ITS FALSE NEIGHBOUR: 'it returns false'. Refute it at one input. -/
def fnExactDivisorOkWrong : ChangeSpec := { name := "fnExactDivisorOk", fn := fun _ => fun
  | [d1, d2] => { results := [.lit (.bool false)], args := [d1, d2] }
  | _ => none }
def FnExactDivisorOkWrongFalsely : Prop := fnExactDivisorOkRow.holds Try.pinned (OpenSpec.ofChange fnExactDivisorOkWrong)

/-- 'laws.FnExactScriptOk': WHATEVER THE INPUT: true; the input reads as it did. -/
def fnExactScriptOkSpec : ChangeSpec := { name := "fnExactScriptOk", fn := fun _ => fun
  | [d1, d2] => { results := [.lit (.bool true)], args := [d1, d2] }
  | _ => none }
def fnExactScriptOkRow : OpenClaim := { program := "ytkdhjeimcnackaa", sum := "220e806b8b19629df58b11bc786d41d7bafe095d978a164df55046b63bd230da", func := "loop.example/g00841/laws.FnExactScriptOk", spec := "fnExactScriptOk", unfollowed := true, recurses := true, apart := false }
def FnExactScriptOkSaid : Prop := fnExactScriptOkRow.holds Try.pinned (OpenSpec.ofChange fnExactScriptOkSpec)

/-- ITS FALSE NEIGHBOUR: 'it returns false'. Refute it at one input. -/
def fnExactScriptOkWrong : ChangeSpec := { name := "fnExactScriptOk", fn := fun _ => fun
  | [d1, d2] => { results := [.lit (.bool false)], args := [d1, d2] }
  | _ => none }
def FnExactScriptOkWrongFalsely : Prop := fnExactScriptOkRow.holds Try.pinned (OpenSpec.ofChange fnExactScriptOkWrong)

/-- 'laws.FnExactOneAt': WHATEVER THE INPUT: true; the input reads as it did. -/
def fnExactOneAtSpec : ChangeSpec := { name := "fnExactOneAt", fn := fun _ => fun
  | [d1, d2, d3] => { results := [.lit (.bool true)], args := [d1, d2, d3] }
  | _ => none }
def fnExactOneAtRow : OpenClaim := { program := "ytkdhjeimcnackaa", sum := "220e806b8b19629df58b11bc786d41d7bafe095d978a164df55046b63bd230da", func := "loop.example/g00841/laws.FnExactOneAt", spec := "fnExactOneAt", unfollowed := true, recurses := true, apart := false }
def FnExactOneAtSaid : Prop := fnExactOneAtRow.holds Try.pinned (OpenSpec.ofChange fnExactOneAtSpec)

/-- ITS FALSE NEIGHBOUR: 'it returns false'. Refute it at one input. -/
def fnExactOneAtWrong : ChangeSpec := { name := "fnExactOneAt", fn := fun _ => fun
  | [d1, d2, d3] => { results := [.lit (.bool false)], args := [d1, d2, d3] }
  | _ => none }
def FnExactOneAtWrongFalsely : Prop := fnExactOneAtRow.holds Try.pinned (OpenSpec.ofChange fnExactOneAtWrong)

/- THE SECOND FORM. 'bulk': how many values and letters a reading holds, each counted each time it is reached (what is shared counts as often as it is met; a slice's spare places count too). A statement '..UptoSaid' is the law's where the arguments, and the package variables that the reading takes, are together of bulk at most 1048576: NARROWER than '..Said'. Prove '..Said' where nothing that the law and all that it calls make is longer than what came in: it says more and counts as full. Else prove '..UptoSaid'. A law counts once. -/
mutual
def uptoBulk {H : Type} : DataW H → Nat
  | .lit (.string bytes) => bytes.length + 1
  | .lit _ => 1
  | .nil => 1
  | .ptr d => uptoBulk d + 1
  | .slice elems spare => uptoBulkAll elems + uptoBulkAll spare + 1
  | .agg parts => uptoBulkAll parts + 1
  | .iface _ d => uptoBulk d + 1
  | .map entries => uptoBulkEntries entries + 1
  | .held _ => 1
def uptoBulkAll {H : Type} : List (DataW H) → Nat
  | [] => 0
  | d :: r => uptoBulk d + uptoBulkAll r
def uptoBulkEntries {H : Type} : List (Lit × DataW H) → Nat
  | [] => 0
  | x :: r => uptoBulkEntry x + uptoBulkEntries r
def uptoBulkEntry {H : Type} : Lit × DataW H → Nat
  | (.string bytes, d) => bytes.length + uptoBulk d + 1
  | (_, d) => uptoBulk d + 1
 end
def uptoSmall : (H : Type) → List (DataW H) → Bool := fun _ ds => decide (uptoBulkAll ds ≤ 1048576)
def OpenSpec.upto (s : _root_.Go.ChangeSpec) : _root_.Go.OpenSpec := { _root_.Go.OpenSpec.ofChange s with cond := some uptoSmall }

/-- 'laws.FnExactSameGraph', WHERE WHAT IT READS IS OF BULK AT MOST 1048576: true; the input reads as it did. -/
def fnExactSameGraphUptoRow : OpenClaim := { program := "ytkdhjeimcnackaa", sum := "220e806b8b19629df58b11bc786d41d7bafe095d978a164df55046b63bd230da", func := "loop.example/g00841/laws.FnExactSameGraph", spec := "fnExactSameGraph", apart := false, narrowed := true }
def FnExactSameGraphUptoSaid : Prop := fnExactSameGraphUptoRow.holds Try.pinned (OpenSpec.upto fnExactSameGraphSpec)

/-- 'laws.FnExactEdgesOk', WHERE WHAT IT READS IS OF BULK AT MOST 1048576: true; the input reads as it did. -/
def fnExactEdgesOkUptoRow : OpenClaim := { program := "ytkdhjeimcnackaa", sum := "220e806b8b19629df58b11bc786d41d7bafe095d978a164df55046b63bd230da", func := "loop.example/g00841/laws.FnExactEdgesOk", spec := "fnExactEdgesOk", apart := false, narrowed := true }
def FnExactEdgesOkUptoSaid : Prop := fnExactEdgesOkUptoRow.holds Try.pinned (OpenSpec.upto fnExactEdgesOkSpec)

/-- 'laws.FnExactMultiplicity', WHERE WHAT IT READS IS OF BULK AT MOST 1048576: true; the input reads as it did. -/
def fnExactMultiplicityUptoRow : OpenClaim := { program := "ytkdhjeimcnackaa", sum := "220e806b8b19629df58b11bc786d41d7bafe095d978a164df55046b63bd230da", func := "loop.example/g00841/laws.FnExactMultiplicity", spec := "fnExactMultiplicity", apart := false, narrowed := true }
def FnExactMultiplicityUptoSaid : Prop := fnExactMultiplicityUptoRow.holds Try.pinned (OpenSpec.upto fnExactMultiplicitySpec)

/-- 'laws.FnExactValence', WHERE WHAT IT READS IS OF BULK AT MOST 1048576: true; the input reads as it did. -/
def fnExactValenceUptoRow : OpenClaim := { program := "ytkdhjeimcnackaa", sum := "220e806b8b19629df58b11bc786d41d7bafe095d978a164df55046b63bd230da", func := "loop.example/g00841/laws.FnExactValence", spec := "fnExactValence", apart := false, narrowed := true }
def FnExactValenceUptoSaid : Prop := fnExactValenceUptoRow.holds Try.pinned (OpenSpec.upto fnExactValenceSpec)

/-- 'laws.FnExactMatrixOk', WHERE WHAT IT READS IS OF BULK AT MOST 1048576: true; the input reads as it did. -/
def fnExactMatrixOkUptoRow : OpenClaim := { program := "ytkdhjeimcnackaa", sum := "220e806b8b19629df58b11bc786d41d7bafe095d978a164df55046b63bd230da", func := "loop.example/g00841/laws.FnExactMatrixOk", spec := "fnExactMatrixOk", apart := false, narrowed := true }
def FnExactMatrixOkUptoSaid : Prop := fnExactMatrixOkUptoRow.holds Try.pinned (OpenSpec.upto fnExactMatrixOkSpec)

/-- 'laws.FnExactTimesVector', WHERE WHAT IT READS IS OF BULK AT MOST 1048576: true; the input reads as it did. -/
def fnExactTimesVectorUptoRow : OpenClaim := { program := "ytkdhjeimcnackaa", sum := "220e806b8b19629df58b11bc786d41d7bafe095d978a164df55046b63bd230da", func := "loop.example/g00841/laws.FnExactTimesVector", spec := "fnExactTimesVector", apart := false, narrowed := true }
def FnExactTimesVectorUptoSaid : Prop := fnExactTimesVectorUptoRow.holds Try.pinned (OpenSpec.upto fnExactTimesVectorSpec)

/-- 'laws.FnExactDeterminant', WHERE WHAT IT READS IS OF BULK AT MOST 1048576: true; the input reads as it did. -/
def fnExactDeterminantUptoRow : OpenClaim := { program := "ytkdhjeimcnackaa", sum := "220e806b8b19629df58b11bc786d41d7bafe095d978a164df55046b63bd230da", func := "loop.example/g00841/laws.FnExactDeterminant", spec := "fnExactDeterminant", recurses := true, apart := false, narrowed := true }
def FnExactDeterminantUptoSaid : Prop := fnExactDeterminantUptoRow.holds Try.pinned (OpenSpec.upto fnExactDeterminantSpec)

/-- 'laws.FnExactGraphOk', WHERE WHAT IT READS IS OF BULK AT MOST 1048576: true; the input reads as it did. -/
def fnExactGraphOkUptoRow : OpenClaim := { program := "ytkdhjeimcnackaa", sum := "220e806b8b19629df58b11bc786d41d7bafe095d978a164df55046b63bd230da", func := "loop.example/g00841/laws.FnExactGraphOk", spec := "fnExactGraphOk", unfollowed := true, recurses := true, apart := false, narrowed := true }
def FnExactGraphOkUptoSaid : Prop := fnExactGraphOkUptoRow.holds Try.pinned (OpenSpec.upto fnExactGraphOkSpec)

/-- 'laws.FnExactGenusOf', WHERE WHAT IT READS IS OF BULK AT MOST 1048576: true; the input reads as it did. -/
def fnExactGenusOfUptoRow : OpenClaim := { program := "ytkdhjeimcnackaa", sum := "220e806b8b19629df58b11bc786d41d7bafe095d978a164df55046b63bd230da", func := "loop.example/g00841/laws.FnExactGenusOf", spec := "fnExactGenusOf", unfollowed := true, recurses := true, apart := false, narrowed := true }
def FnExactGenusOfUptoSaid : Prop := fnExactGenusOfUptoRow.holds Try.pinned (OpenSpec.upto fnExactGenusOfSpec)

/-- 'laws.FnExactDivisorOk', WHERE WHAT IT READS IS OF BULK AT MOST 1048576: true; the input reads as it did. -/
def fnExactDivisorOkUptoRow : OpenClaim := { program := "ytkdhjeimcnackaa", sum := "220e806b8b19629df58b11bc786d41d7bafe095d978a164df55046b63bd230da", func := "loop.example/g00841/laws.FnExactDivisorOk", spec := "fnExactDivisorOk", unfollowed := true, recurses := true, apart := false, narrowed := true }
def FnExactDivisorOkUptoSaid : Prop := fnExactDivisorOkUptoRow.holds Try.pinned (OpenSpec.upto fnExactDivisorOkSpec)

/-- 'laws.FnExactScriptOk', WHERE WHAT IT READS IS OF BULK AT MOST 1048576: true; the input reads as it did. -/
def fnExactScriptOkUptoRow : OpenClaim := { program := "ytkdhjeimcnackaa", sum := "220e806b8b19629df58b11bc786d41d7bafe095d978a164df55046b63bd230da", func := "loop.example/g00841/laws.FnExactScriptOk", spec := "fnExactScriptOk", unfollowed := true, recurses := true, apart := false, narrowed := true }
def FnExactScriptOkUptoSaid : Prop := fnExactScriptOkUptoRow.holds Try.pinned (OpenSpec.upto fnExactScriptOkSpec)

/-- 'laws.FnExactOneAt', WHERE WHAT IT READS IS OF BULK AT MOST 1048576: true; the input reads as it did. -/
def fnExactOneAtUptoRow : OpenClaim := { program := "ytkdhjeimcnackaa", sum := "220e806b8b19629df58b11bc786d41d7bafe095d978a164df55046b63bd230da", func := "loop.example/g00841/laws.FnExactOneAt", spec := "fnExactOneAt", unfollowed := true, recurses := true, apart := false, narrowed := true }
def FnExactOneAtUptoSaid : Prop := fnExactOneAtUptoRow.holds Try.pinned (OpenSpec.upto fnExactOneAtSpec)

end Rows
end Go.Proofs.Ytkdhjeimcnackaa
