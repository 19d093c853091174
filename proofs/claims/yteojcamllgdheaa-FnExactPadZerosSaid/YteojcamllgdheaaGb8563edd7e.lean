/- Functions of the program as plain Lean functions and that the machine's calls answer as they do, the words of the print that these use, lemmas and plain proofs of laws. Put together by a program of this work that leaves out what nothing uses; Lean checks it. -/
import Derived.Test.YteojcamllgdheaaG507a01260f
import Derived.Test.YteojcamllgdheaaG1e650ec7e6
section
namespace Go.Proofs.Yteojcamllgdheaa.Pure
open Go.RowKit Go.Proofs.Yteojcamllgdheaa.P Go.Proofs.YteojcamllgdheaaW.PrintWords Go.Proofs.YteojcamllgdheaaW.PrintLast Go.Proofs.YteojcamllgdheaaW.PrintMore
def StatFnExactPadZeros : Prop := ∀ (a0 : ByteArray) (a1 : Int), a0.size ≤ maxLen → (Lit.int .i64 a1).wf = true → ∃ k, laws_FnExactPadZeros.f k a0 a1 = some true
end Go.Proofs.Yteojcamllgdheaa.Pure
end
section
set_option linter.unusedVariables false
set_option linter.unusedSimpArgs false
namespace Go.Proofs.Yteojcamllgdheaa.Pure
open Go.RowKit Go.Proofs.Yteojcamllgdheaa.P Go.Proofs.YteojcamllgdheaaW.PrintWords Go.Proofs.YteojcamllgdheaaW.PrintLast Go.Proofs.YteojcamllgdheaaW.PrintMore Go.Proofs.Yteojcamllgdheaa.Base Go.Proofs.Yteojcamllgdheaa.Loops
theorem FnExactPadZeros : StatFnExactPadZeros := by
  intro s n _ _
  exact Ev.rounds (r := true) (lawPadZeros s n)
end Go.Proofs.Yteojcamllgdheaa.Pure
end
