/- Functions of the program as plain Lean functions, and that the machine's calls answer as they do. Written for this claim by a program of this work that drives the kit's print engine; Lean checks it. -/
import Derived.Test.YtdolciclfpdcfaaProg
import Derived.Below
import Derived.Deep.Draws
import Derived.Deep.AppendLies
import Derived.Maps.AppendAt
import Derived.OwnWalk
import Derived.Laws.BytesArg
import Derived.Laws.MakeOwn
import Derived.Laws.OwnMore
import Derived.Deep.OwnRows
import Derived.Tactics
import Derived.Lib.ConvBytes
import Derived.Laws.Slices
import Derived.WalkKit
import Derived.KernelRfl
import Derived.RowKit3
import Derived.Deep.LoopGhost
import Derived.Deep.QuietTactic
import Derived.BigQuiet
import Derived.WideLaws
import Derived.Deep.DeepCutAuto
import Derived.Deep.CutBlock
import Derived.Deep.RegionHeld3
import Derived.Laws.Rows
import Derived.Lib.AppendStr
import Derived.ArgAppend
import Derived.Laws.IdiomCopy
import Derived.OrdersHeld
import Derived.Laws.BitsLemmas
import Derived.RowKit
import Derived.Test.YtdolciclfpdcfaaFnVal
import Derived.Test.YtdolciclfpdcfaaWWords
import Derived.Test.YtdolciclfpdcfaaWLast
import Derived.Test.YtdolciclfpdcfaaWTab
import Derived.Test.YtdolciclfpdcfaaWFour
import Derived.Test.YtdolciclfpdcfaaWQPut
import Derived.Test.YtdolciclfpdcfaaWApart
import Derived.Test.YtdolciclfpdcfaaWArr
import Derived.Test.YtdolciclfpdcfaaWZeros
import Derived.Test.YtdolciclfpdcfaaWFoot
import Derived.Test.YtdolciclfpdcfaaWKept
import Derived.Test.YtdolciclfpdcfaaWShare
import Derived.Test.YtdolciclfpdcfaaWN
import Derived.Test.YtdolciclfpdcfaaWFootNe
import Derived.Test.YtdolciclfpdcfaaWAt
import Derived.Test.YtdolciclfpdcfaaWEqStruct
import Derived.Test.YtdolciclfpdcfaaWRepsOne
import Derived.Test.YtdolciclfpdcfaaWInv
import Derived.Test.YtdolciclfpdcfaaWInvWords
import Derived.Test.YtdolciclfpdcfaaWGuard
import Derived.Test.YtdolciclfpdcfaaWNEv
import Derived.Test.YtdolciclfpdcfaaWMore
section
namespace Go.Proofs.Ytdolciclfpdcfaa.P
open Go.RowKit Go.Proofs.YtdolciclfpdcfaaW.PrintWords Go.Proofs.YtdolciclfpdcfaaW.PrintLast Go.Proofs.YtdolciclfpdcfaaW.PrintMore
attribute [local go_sem] max2_int min2_int max_two min_two max_three min_three max_four min_four   -- for this text's walks alone
set_option linter.unusedVariables false
set_option linter.unusedSimpArgs false



def errW : Option Int → Value
  | none => .nilIface
  | some c => .iface 0 (.int .i64 c)
theorem errW_none : errW none = .nilIface := rfl
theorem errW_some (c : Int) : errW (some c) = .iface 0 (.int .i64 c) := rfl

theorem info3 : (Try.prog.info? 3).map (fun i => (i.zero, i.size, i.bytes)) = some (some (.int .i64 0), 1, 8) := by kernel_rfl
theorem info5 : (Try.prog.info? 5).map (fun i => (i.zero, i.size, i.bytes)) = some (some (.int .u8 0), 1, 1) := by kernel_rfl
theorem info9 : (Try.prog.info? 9).map (fun i => (i.zero, i.size, i.bytes)) = some (some (.string ⟨#[]⟩), 1, 16) := by kernel_rfl
-- the values' own types

end Go.Proofs.Ytdolciclfpdcfaa.P
end
