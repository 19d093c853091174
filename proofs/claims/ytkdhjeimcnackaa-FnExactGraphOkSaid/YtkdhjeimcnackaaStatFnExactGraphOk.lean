/- The plain statement of the law FnExactGraphOk, over numbers and lists. -/
import Derived.Test.YtkdhjeimcnackaaPx58
namespace Go.Proofs.Ytkdhjeimcnackaa.Pure
open Go.RowKit Go.Proofs.Ytkdhjeimcnackaa.P Go.Proofs.YtkdhjeimcnackaaW.PrintWords Go.Proofs.YtkdhjeimcnackaaW.PrintLast Go.Proofs.YtkdhjeimcnackaaW.PrintMore
def StatFnExactGraphOk : Prop := ∀ (a0_0 : Int) (l0_1 : List (S73)), ((Lit.int .i64 a0_0).wf = true ∧ (l0_1.length ≤ maxLen ∧ ∀ x4 ∈ l0_1, (Lit.int .i64 x4.f0).wf = true ∧ (Lit.int .i64 x4.f1).wf = true)) → ∃ k, laws_FnExactGraphOk.f k a0_0 l0_1 = some true
end Go.Proofs.Ytkdhjeimcnackaa.Pure
