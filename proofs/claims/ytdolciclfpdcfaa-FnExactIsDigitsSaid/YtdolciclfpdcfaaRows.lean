/-
  No cell of these rows narrows 'for every input' (looked for: loops, veiled, ifaces, maps, wideKeys, modest, calm, conditions, laid).
  DERIVED. THE GIVEN ROWS OF THIS SEAT. 12 by the template 'for every input the law returns true; each argument reads behind the call as it read before'; 0 by the template 'total and deterministic' (their statements: YtdolciclfpdcfaaTotals.lean).
  GIVEN WITH THE SEED: the statements are not yours to turn. If you find one false, say at which input.
  Laid BY PROGRAM, IN A SANDBOX (cutbox-rows.mjs): the forced cells as the released guide's own fill.sh prints them over the translation b698dddab7da57c7… (all of the seat's roots in one cut). By AI agents, Wed Nov 11 2026. No macro, syntax, notation, axiom, sorry.
-/
import Derived.Test.YtdolciclfpdcfaaChecked
import GoSem.Claim
import GoSem.ClaimJoined
import GoSem.ClaimMapViews
import Derived.JoinedTies
import Derived.KernelRfl
namespace Go.Proofs.Ytdolciclfpdcfaa
/- THE CELL 'sum', in the pinned program and in every row, IS THE sha256 OF THE DUMP (.gsa) THAT YtdolciclfpdcfaaProg.lean LOADS. Nothing in Lean hashes anything: it is a label: what it is worth is what the hold of that sum in a sandbox is worth. -/
noncomputable def Try.pinned : Pinned := { name := "ytdolciclfpdcfaa", sum := "b698dddab7da57c756ed69058e110b5cb68334178d1e43051b4f3b3968cd0ce4", checked := Try.checked }
namespace Rows
def none {H : Type} : Left H := { results := [], args := [] }

/-- 'laws.FnExactIsDigits': WHATEVER THE INPUT: true; the input reads as it did. -/
def fnExactIsDigitsSpec : ChangeSpec := { name := "fnExactIsDigits", fn := fun _ => fun
  | [d] => { results := [.lit (.bool true)], args := [d] }
  | _ => none }
def fnExactIsDigitsRow : OpenClaim := { program := "ytdolciclfpdcfaa", sum := "b698dddab7da57c756ed69058e110b5cb68334178d1e43051b4f3b3968cd0ce4", func := "loop.example/g00841/laws.FnExactIsDigits", spec := "fnExactIsDigits", apart := false }
def FnExactIsDigitsSaid : Prop := fnExactIsDigitsRow.holds Try.pinned (OpenSpec.ofChange fnExactIsDigitsSpec)

/-- ITS FALSE NEIGHBOUR: 'it returns false'. Refute it at one input. -/
def fnExactIsDigitsWrong : ChangeSpec := { name := "fnExactIsDigits", fn := fun _ => fun
  | [d] => { results := [.lit (.bool false)], args := [d] }
  | _ => none }
def FnExactIsDigitsWrongFalsely : Prop := fnExactIsDigitsRow.holds Try.pinned (OpenSpec.ofChange fnExactIsDigitsWrong)

/-- 'laws.FnExactIsName': WHATEVER THE INPUT: true; the input reads as it did. -/
def fnExactIsNameSpec : ChangeSpec := { name := "fnExactIsName", fn := fun _ => fun
  | [d] => { results := [.lit (.bool true)], args := [d] }
  | _ => none }
def fnExactIsNameRow : OpenClaim := { program := "ytdolciclfpdcfaa", sum := "b698dddab7da57c756ed69058e110b5cb68334178d1e43051b4f3b3968cd0ce4", func := "loop.example/g00841/laws.FnExactIsName", spec := "fnExactIsName", apart := false }
def FnExactIsNameSaid : Prop := fnExactIsNameRow.holds Try.pinned (OpenSpec.ofChange fnExactIsNameSpec)

/-- ITS FALSE NEIGHBOUR: 'it returns false'. Refute it at one input. -/
def fnExactIsNameWrong : ChangeSpec := { name := "fnExactIsName", fn := fun _ => fun
  | [d] => { results := [.lit (.bool false)], args := [d] }
  | _ => none }
def FnExactIsNameWrongFalsely : Prop := fnExactIsNameRow.holds Try.pinned (OpenSpec.ofChange fnExactIsNameWrong)

/-- 'laws.FnExactDegreeOf': WHATEVER THE INPUT: true; the input reads as it did. -/
def fnExactDegreeOfSpec : ChangeSpec := { name := "fnExactDegreeOf", fn := fun _ => fun
  | [d] => { results := [.lit (.bool true)], args := [d] }
  | _ => none }
def fnExactDegreeOfRow : OpenClaim := { program := "ytdolciclfpdcfaa", sum := "b698dddab7da57c756ed69058e110b5cb68334178d1e43051b4f3b3968cd0ce4", func := "loop.example/g00841/laws.FnExactDegreeOf", spec := "fnExactDegreeOf", apart := false }
def FnExactDegreeOfSaid : Prop := fnExactDegreeOfRow.holds Try.pinned (OpenSpec.ofChange fnExactDegreeOfSpec)

/-- ITS FALSE NEIGHBOUR: 'it returns false'. Refute it at one input. -/
def fnExactDegreeOfWrong : ChangeSpec := { name := "fnExactDegreeOf", fn := fun _ => fun
  | [d] => { results := [.lit (.bool false)], args := [d] }
  | _ => none }
def FnExactDegreeOfWrongFalsely : Prop := fnExactDegreeOfRow.holds Try.pinned (OpenSpec.ofChange fnExactDegreeOfWrong)

/-- 'laws.FnExactIsEffective': WHATEVER THE INPUT: true; the input reads as it did. -/
def fnExactIsEffectiveSpec : ChangeSpec := { name := "fnExactIsEffective", fn := fun _ => fun
  | [d] => { results := [.lit (.bool true)], args := [d] }
  | _ => none }
def fnExactIsEffectiveRow : OpenClaim := { program := "ytdolciclfpdcfaa", sum := "b698dddab7da57c756ed69058e110b5cb68334178d1e43051b4f3b3968cd0ce4", func := "loop.example/g00841/laws.FnExactIsEffective", spec := "fnExactIsEffective", apart := false }
def FnExactIsEffectiveSaid : Prop := fnExactIsEffectiveRow.holds Try.pinned (OpenSpec.ofChange fnExactIsEffectiveSpec)

/-- ITS FALSE NEIGHBOUR: 'it returns false'. Refute it at one input. -/
def fnExactIsEffectiveWrong : ChangeSpec := { name := "fnExactIsEffective", fn := fun _ => fun
  | [d] => { results := [.lit (.bool false)], args := [d] }
  | _ => none }
def FnExactIsEffectiveWrongFalsely : Prop := fnExactIsEffectiveRow.holds Try.pinned (OpenSpec.ofChange fnExactIsEffectiveWrong)

/-- 'laws.FnExactSameDivisor': WHATEVER THE INPUT: true; the input reads as it did. -/
def fnExactSameDivisorSpec : ChangeSpec := { name := "fnExactSameDivisor", fn := fun _ => fun
  | [d1, d2] => { results := [.lit (.bool true)], args := [d1, d2] }
  | _ => none }
def fnExactSameDivisorRow : OpenClaim := { program := "ytdolciclfpdcfaa", sum := "b698dddab7da57c756ed69058e110b5cb68334178d1e43051b4f3b3968cd0ce4", func := "loop.example/g00841/laws.FnExactSameDivisor", spec := "fnExactSameDivisor", apart := false }
def FnExactSameDivisorSaid : Prop := fnExactSameDivisorRow.holds Try.pinned (OpenSpec.ofChange fnExactSameDivisorSpec)

/-- ITS FALSE NEIGHBOUR: 'it returns false'. Refute it at one input. -/
def fnExactSameDivisorWrong : ChangeSpec := { name := "fnExactSameDivisor", fn := fun _ => fun
  | [d1, d2] => { results := [.lit (.bool false)], args := [d1, d2] }
  | _ => none }
def FnExactSameDivisorWrongFalsely : Prop := fnExactSameDivisorRow.holds Try.pinned (OpenSpec.ofChange fnExactSameDivisorWrong)

/-- 'laws.FnExactNegateDivisor': WHATEVER THE INPUT: true; the input reads as it did. -/
def fnExactNegateDivisorSpec : ChangeSpec := { name := "fnExactNegateDivisor", fn := fun _ => fun
  | [d] => { results := [.lit (.bool true)], args := [d] }
  | _ => none }
def fnExactNegateDivisorRow : OpenClaim := { program := "ytdolciclfpdcfaa", sum := "b698dddab7da57c756ed69058e110b5cb68334178d1e43051b4f3b3968cd0ce4", func := "loop.example/g00841/laws.FnExactNegateDivisor", spec := "fnExactNegateDivisor", apart := false }
def FnExactNegateDivisorSaid : Prop := fnExactNegateDivisorRow.holds Try.pinned (OpenSpec.ofChange fnExactNegateDivisorSpec)

/-- ITS FALSE NEIGHBOUR: 'it returns false'. Refute it at one input. -/
def fnExactNegateDivisorWrong : ChangeSpec := { name := "fnExactNegateDivisor", fn := fun _ => fun
  | [d] => { results := [.lit (.bool false)], args := [d] }
  | _ => none }
def FnExactNegateDivisorWrongFalsely : Prop := fnExactNegateDivisorRow.holds Try.pinned (OpenSpec.ofChange fnExactNegateDivisorWrong)

/-- 'laws.FnExactAddDivisors': WHATEVER THE INPUT: true; the input reads as it did. -/
def fnExactAddDivisorsSpec : ChangeSpec := { name := "fnExactAddDivisors", fn := fun _ => fun
  | [d1, d2] => { results := [.lit (.bool true)], args := [d1, d2] }
  | _ => none }
def fnExactAddDivisorsRow : OpenClaim := { program := "ytdolciclfpdcfaa", sum := "b698dddab7da57c756ed69058e110b5cb68334178d1e43051b4f3b3968cd0ce4", func := "loop.example/g00841/laws.FnExactAddDivisors", spec := "fnExactAddDivisors", apart := false }
def FnExactAddDivisorsSaid : Prop := fnExactAddDivisorsRow.holds Try.pinned (OpenSpec.ofChange fnExactAddDivisorsSpec)

/-- ITS FALSE NEIGHBOUR: 'it returns false'. Refute it at one input. -/
def fnExactAddDivisorsWrong : ChangeSpec := { name := "fnExactAddDivisors", fn := fun _ => fun
  | [d1, d2] => { results := [.lit (.bool false)], args := [d1, d2] }
  | _ => none }
def FnExactAddDivisorsWrongFalsely : Prop := fnExactAddDivisorsRow.holds Try.pinned (OpenSpec.ofChange fnExactAddDivisorsWrong)

/-- 'laws.FnExactSplitAny': WHATEVER THE INPUT: true; the input reads as it did. -/
def fnExactSplitAnySpec : ChangeSpec := { name := "fnExactSplitAny", fn := fun _ => fun
  | [d1, d2] => { results := [.lit (.bool true)], args := [d1, d2] }
  | _ => none }
def fnExactSplitAnyRow : OpenClaim := { program := "ytdolciclfpdcfaa", sum := "b698dddab7da57c756ed69058e110b5cb68334178d1e43051b4f3b3968cd0ce4", func := "loop.example/g00841/laws.FnExactSplitAny", spec := "fnExactSplitAny", inPlace := ["internal/bytealg.IndexByteString"], apart := false }
def FnExactSplitAnySaid : Prop := fnExactSplitAnyRow.holds Try.pinned (OpenSpec.ofChange fnExactSplitAnySpec)

/-- ITS FALSE NEIGHBOUR: 'it returns false'. Refute it at one input. -/
def fnExactSplitAnyWrong : ChangeSpec := { name := "fnExactSplitAny", fn := fun _ => fun
  | [d1, d2] => { results := [.lit (.bool false)], args := [d1, d2] }
  | _ => none }
def FnExactSplitAnyWrongFalsely : Prop := fnExactSplitAnyRow.holds Try.pinned (OpenSpec.ofChange fnExactSplitAnyWrong)

/-- 'laws.FnExactSplitLines': WHATEVER THE INPUT: true; the input reads as it did. -/
def fnExactSplitLinesSpec : ChangeSpec := { name := "fnExactSplitLines", fn := fun _ => fun
  | [d] => { results := [.lit (.bool true)], args := [d] }
  | _ => none }
def fnExactSplitLinesRow : OpenClaim := { program := "ytdolciclfpdcfaa", sum := "b698dddab7da57c756ed69058e110b5cb68334178d1e43051b4f3b3968cd0ce4", func := "loop.example/g00841/laws.FnExactSplitLines", spec := "fnExactSplitLines", inPlace := ["internal/bytealg.IndexByteString"], apart := false }
def FnExactSplitLinesSaid : Prop := fnExactSplitLinesRow.holds Try.pinned (OpenSpec.ofChange fnExactSplitLinesSpec)

/-- ITS FALSE NEIGHBOUR: 'it returns false'. Refute it at one input. -/
def fnExactSplitLinesWrong : ChangeSpec := { name := "fnExactSplitLines", fn := fun _ => fun
  | [d] => { results := [.lit (.bool false)], args := [d] }
  | _ => none }
def FnExactSplitLinesWrongFalsely : Prop := fnExactSplitLinesRow.holds Try.pinned (OpenSpec.ofChange fnExactSplitLinesWrong)

/-- 'laws.FnExactJoin': WHATEVER THE INPUT: true; the input reads as it did. -/
def fnExactJoinSpec : ChangeSpec := { name := "fnExactJoin", fn := fun _ => fun
  | [d1, d2] => { results := [.lit (.bool true)], args := [d1, d2] }
  | _ => none }
def fnExactJoinRow : OpenClaim := { program := "ytdolciclfpdcfaa", sum := "b698dddab7da57c756ed69058e110b5cb68334178d1e43051b4f3b3968cd0ce4", func := "loop.example/g00841/laws.FnExactJoin", spec := "fnExactJoin", inPlace := ["internal/abi.NoEscape", "internal/bytealg.MakeNoZero"], apart := false }
def FnExactJoinSaid : Prop := fnExactJoinRow.holds Try.pinned (OpenSpec.ofChange fnExactJoinSpec)

/-- ITS FALSE NEIGHBOUR: 'it returns false'. Refute it at one input. -/
def fnExactJoinWrong : ChangeSpec := { name := "fnExactJoin", fn := fun _ => fun
  | [d1, d2] => { results := [.lit (.bool false)], args := [d1, d2] }
  | _ => none }
def FnExactJoinWrongFalsely : Prop := fnExactJoinRow.holds Try.pinned (OpenSpec.ofChange fnExactJoinWrong)

/-- 'laws.FnExactConstants': WHATEVER THE INPUT: true; the input reads as it did. -/
def fnExactConstantsSpec : ChangeSpec := { name := "fnExactConstants", fn := fun _ => fun
  | [] => { results := [.lit (.bool true)], args := [] }
  | _ => none }
def fnExactConstantsRow : OpenClaim := { program := "ytdolciclfpdcfaa", sum := "b698dddab7da57c756ed69058e110b5cb68334178d1e43051b4f3b3968cd0ce4", func := "loop.example/g00841/laws.FnExactConstants", spec := "fnExactConstants", apart := false }
def FnExactConstantsSaid : Prop := fnExactConstantsRow.holds Try.pinned (OpenSpec.ofChange fnExactConstantsSpec)

/-- ITS FALSE NEIGHBOUR: 'it returns false'. Refute it at one input. -/
def fnExactConstantsWrong : ChangeSpec := { name := "fnExactConstants", fn := fun _ => fun
  | [] => { results := [.lit (.bool false)], args := [] }
  | _ => none }
def FnExactConstantsWrongFalsely : Prop := fnExactConstantsRow.holds Try.pinned (OpenSpec.ofChange fnExactConstantsWrong)

/-- 'laws.FnExactPadZeros': WHATEVER THE INPUT: true; the input reads as it did. -/
def fnExactPadZerosSpec : ChangeSpec := { name := "fnExactPadZeros", fn := fun _ => fun
  | [d1, d2] => { results := [.lit (.bool true)], args := [d1, d2] }
  | _ => none }
def fnExactPadZerosRow : OpenClaim := { program := "ytdolciclfpdcfaa", sum := "b698dddab7da57c756ed69058e110b5cb68334178d1e43051b4f3b3968cd0ce4", func := "loop.example/g00841/laws.FnExactPadZeros", spec := "fnExactPadZeros", inPlace := ["internal/abi.NoEscape", "internal/bytealg.MakeNoZero"], apart := false }
def FnExactPadZerosSaid : Prop := fnExactPadZerosRow.holds Try.pinned (OpenSpec.ofChange fnExactPadZerosSpec)

/-- ITS FALSE NEIGHBOUR: 'it returns false'. Refute it at one input. -/
def fnExactPadZerosWrong : ChangeSpec := { name := "fnExactPadZeros", fn := fun _ => fun
  | [d1, d2] => { results := [.lit (.bool false)], args := [d1, d2] }
  | _ => none }
def FnExactPadZerosWrongFalsely : Prop := fnExactPadZerosRow.holds Try.pinned (OpenSpec.ofChange fnExactPadZerosWrong)

/- THE SECOND FORM. 'bulk': how many values and letters a reading holds, each counted each time it is reached (what is shared counts as often as it is met; a slice's spare places count too). A statement '..UptoSaid' is the law's where the arguments, and the package variables that the reading takes, are together of bulk at most 1048576: NARROWER than '..Said'. Prove '..Said' where nothing that the law and all that it calls make is longer than what came in: it says more and counts as full. Else prove '..UptoSaid'. A law counts once. -/
mutual
def uptoBulk {H : Type} : DataW H → Nat
  | .lit (.string bytes) => bytes.length + 1
  | .lit _ => 1
  | .nil => 1
  | .ptr d => uptoBulk d + 1
  | .slice elems spare => uptoBulkAll elems + uptoBulkAll spare + 1
  | .agg parts => uptoBulkAll parts + 1
  | .iface _ d => uptoBulk d + 1
  | .map entries => uptoBulkEntries entries + 1
  | .held _ => 1
def uptoBulkAll {H : Type} : List (DataW H) → Nat
  | [] => 0
  | d :: r => uptoBulk d + uptoBulkAll r
def uptoBulkEntries {H : Type} : List (Lit × DataW H) → Nat
  | [] => 0
  | x :: r => uptoBulkEntry x + uptoBulkEntries r
def uptoBulkEntry {H : Type} : Lit × DataW H → Nat
  | (.string bytes, d) => bytes.length + uptoBulk d + 1
  | (_, d) => uptoBulk d + 1
 end
def uptoSmall : (H : Type) → List (DataW H) → Bool := fun _ ds => decide (uptoBulkAll ds ≤ 1048576)
def OpenSpec.upto (s : _root_.Go.ChangeSpec) : _root_.Go.OpenSpec := { _root_.Go.OpenSpec.ofChange s with cond := some uptoSmall }

/-- 'laws.FnExactIsDigits', WHERE WHAT IT READS IS OF BULK AT MOST 1048576: true; the input reads as it did. -/
def fnExactIsDigitsUptoRow : OpenClaim := { program := "ytdolciclfpdcfaa", sum := "b698dddab7da57c756ed69058e110b5cb68334178d1e43051b4f3b3968cd0ce4", func := "loop.example/g00841/laws.FnExactIsDigits", spec := "fnExactIsDigits", apart := false, narrowed := true }
def FnExactIsDigitsUptoSaid : Prop := fnExactIsDigitsUptoRow.holds Try.pinned (OpenSpec.upto fnExactIsDigitsSpec)

/-- 'laws.FnExactIsName', WHERE WHAT IT READS IS OF BULK AT MOST 1048576: true; the input reads as it did. -/
def fnExactIsNameUptoRow : OpenClaim := { program := "ytdolciclfpdcfaa", sum := "b698dddab7da57c756ed69058e110b5cb68334178d1e43051b4f3b3968cd0ce4", func := "loop.example/g00841/laws.FnExactIsName", spec := "fnExactIsName", apart := false, narrowed := true }
def FnExactIsNameUptoSaid : Prop := fnExactIsNameUptoRow.holds Try.pinned (OpenSpec.upto fnExactIsNameSpec)

/-- 'laws.FnExactDegreeOf', WHERE WHAT IT READS IS OF BULK AT MOST 1048576: true; the input reads as it did. -/
def fnExactDegreeOfUptoRow : OpenClaim := { program := "ytdolciclfpdcfaa", sum := "b698dddab7da57c756ed69058e110b5cb68334178d1e43051b4f3b3968cd0ce4", func := "loop.example/g00841/laws.FnExactDegreeOf", spec := "fnExactDegreeOf", apart := false, narrowed := true }
def FnExactDegreeOfUptoSaid : Prop := fnExactDegreeOfUptoRow.holds Try.pinned (OpenSpec.upto fnExactDegreeOfSpec)

/-- 'laws.FnExactIsEffective', WHERE WHAT IT READS IS OF BULK AT MOST 1048576: true; the input reads as it did. -/
def fnExactIsEffectiveUptoRow : OpenClaim := { program := "ytdolciclfpdcfaa", sum := "b698dddab7da57c756ed69058e110b5cb68334178d1e43051b4f3b3968cd0ce4", func := "loop.example/g00841/laws.FnExactIsEffective", spec := "fnExactIsEffective", apart := false, narrowed := true }
def FnExactIsEffectiveUptoSaid : Prop := fnExactIsEffectiveUptoRow.holds Try.pinned (OpenSpec.upto fnExactIsEffectiveSpec)

/-- 'laws.FnExactSameDivisor', WHERE WHAT IT READS IS OF BULK AT MOST 1048576: true; the input reads as it did. -/
def fnExactSameDivisorUptoRow : OpenClaim := { program := "ytdolciclfpdcfaa", sum := "b698dddab7da57c756ed69058e110b5cb68334178d1e43051b4f3b3968cd0ce4", func := "loop.example/g00841/laws.FnExactSameDivisor", spec := "fnExactSameDivisor", apart := false, narrowed := true }
def FnExactSameDivisorUptoSaid : Prop := fnExactSameDivisorUptoRow.holds Try.pinned (OpenSpec.upto fnExactSameDivisorSpec)

/-- 'laws.FnExactNegateDivisor', WHERE WHAT IT READS IS OF BULK AT MOST 1048576: true; the input reads as it did. -/
def fnExactNegateDivisorUptoRow : OpenClaim := { program := "ytdolciclfpdcfaa", sum := "b698dddab7da57c756ed69058e110b5cb68334178d1e43051b4f3b3968cd0ce4", func := "loop.example/g00841/laws.FnExactNegateDivisor", spec := "fnExactNegateDivisor", apart := false, narrowed := true }
def FnExactNegateDivisorUptoSaid : Prop := fnExactNegateDivisorUptoRow.holds Try.pinned (OpenSpec.upto fnExactNegateDivisorSpec)

/-- 'laws.FnExactAddDivisors', WHERE WHAT IT READS IS OF BULK AT MOST 1048576: true; the input reads as it did. -/
def fnExactAddDivisorsUptoRow : OpenClaim := { program := "ytdolciclfpdcfaa", sum := "b698dddab7da57c756ed69058e110b5cb68334178d1e43051b4f3b3968cd0ce4", func := "loop.example/g00841/laws.FnExactAddDivisors", spec := "fnExactAddDivisors", apart := false, narrowed := true }
def FnExactAddDivisorsUptoSaid : Prop := fnExactAddDivisorsUptoRow.holds Try.pinned (OpenSpec.upto fnExactAddDivisorsSpec)

/-- 'laws.FnExactSplitAny', WHERE WHAT IT READS IS OF BULK AT MOST 1048576: true; the input reads as it did. -/
def fnExactSplitAnyUptoRow : OpenClaim := { program := "ytdolciclfpdcfaa", sum := "b698dddab7da57c756ed69058e110b5cb68334178d1e43051b4f3b3968cd0ce4", func := "loop.example/g00841/laws.FnExactSplitAny", spec := "fnExactSplitAny", inPlace := ["internal/bytealg.IndexByteString"], apart := false, narrowed := true }
def FnExactSplitAnyUptoSaid : Prop := fnExactSplitAnyUptoRow.holds Try.pinned (OpenSpec.upto fnExactSplitAnySpec)

/-- 'laws.FnExactSplitLines', WHERE WHAT IT READS IS OF BULK AT MOST 1048576: true; the input reads as it did. -/
def fnExactSplitLinesUptoRow : OpenClaim := { program := "ytdolciclfpdcfaa", sum := "b698dddab7da57c756ed69058e110b5cb68334178d1e43051b4f3b3968cd0ce4", func := "loop.example/g00841/laws.FnExactSplitLines", spec := "fnExactSplitLines", inPlace := ["internal/bytealg.IndexByteString"], apart := false, narrowed := true }
def FnExactSplitLinesUptoSaid : Prop := fnExactSplitLinesUptoRow.holds Try.pinned (OpenSpec.upto fnExactSplitLinesSpec)

/-- 'laws.FnExactJoin', WHERE WHAT IT READS IS OF BULK AT MOST 1048576: true; the input reads as it did. -/
def fnExactJoinUptoRow : OpenClaim := { program := "ytdolciclfpdcfaa", sum := "b698dddab7da57c756ed69058e110b5cb68334178d1e43051b4f3b3968cd0ce4", func := "loop.example/g00841/laws.FnExactJoin", spec := "fnExactJoin", inPlace := ["internal/abi.NoEscape", "internal/bytealg.MakeNoZero"], apart := false, narrowed := true }
def FnExactJoinUptoSaid : Prop := fnExactJoinUptoRow.holds Try.pinned (OpenSpec.upto fnExactJoinSpec)

/-- 'laws.FnExactConstants', WHERE WHAT IT READS IS OF BULK AT MOST 1048576: true; the input reads as it did. -/
def fnExactConstantsUptoRow : OpenClaim := { program := "ytdolciclfpdcfaa", sum := "b698dddab7da57c756ed69058e110b5cb68334178d1e43051b4f3b3968cd0ce4", func := "loop.example/g00841/laws.FnExactConstants", spec := "fnExactConstants", apart := false, narrowed := true }
def FnExactConstantsUptoSaid : Prop := fnExactConstantsUptoRow.holds Try.pinned (OpenSpec.upto fnExactConstantsSpec)

/-- 'laws.FnExactPadZeros', WHERE WHAT IT READS IS OF BULK AT MOST 1048576: true; the input reads as it did. -/
def fnExactPadZerosUptoRow : OpenClaim := { program := "ytdolciclfpdcfaa", sum := "b698dddab7da57c756ed69058e110b5cb68334178d1e43051b4f3b3968cd0ce4", func := "loop.example/g00841/laws.FnExactPadZeros", spec := "fnExactPadZeros", inPlace := ["internal/abi.NoEscape", "internal/bytealg.MakeNoZero"], apart := false, narrowed := true }
def FnExactPadZerosUptoSaid : Prop := fnExactPadZerosUptoRow.holds Try.pinned (OpenSpec.upto fnExactPadZerosSpec)

end Rows
end Go.Proofs.Ytdolciclfpdcfaa
