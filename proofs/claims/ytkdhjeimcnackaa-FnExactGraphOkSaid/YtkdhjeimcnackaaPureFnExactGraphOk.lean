/- The program's GraphOk answers as the reference's at every graph. Graphs of more than 2^20 edges answer true by the law's own first test. -/
import Derived.Test.YtkdhjeimcnackaaPx58
import Derived.Test.YtkdhjeimcnackaaStatFnExactGraphOk
import Derived.Test.YtkdhjeimcnackaaBase
import Derived.Test.YtkdhjeimcnackaaLoops
import Derived.Test.YtkdhjeimcnackaaBits
import Derived.Test.YtkdhjeimcnackaaSspecReach
set_option linter.unusedVariables false
set_option linter.unusedSimpArgs false
namespace Go.Proofs.Ytkdhjeimcnackaa.Pure
open Go.RowKit Go.Proofs.Ytkdhjeimcnackaa.P Go.Proofs.YtkdhjeimcnackaaW.PrintWords Go.Proofs.YtkdhjeimcnackaaW.PrintLast Go.Proofs.YtkdhjeimcnackaaW.PrintMore Go.Proofs.Ytkdhjeimcnackaa.Base Go.Proofs.Ytkdhjeimcnackaa.Loops Go.Proofs.Ytkdhjeimcnackaa.Bits

theorem FnExactGraphOk : StatFnExactGraphOk := by
  intro n l ⟨_, hl, _⟩
  have hs := szGraph_eq n l hl 1048576 (by omega) (by omega)
  by_cases h : (l.length : Int) ≤ 1048576
  · have tg := toGraph_ev n l (by omega)
    have hm := map_cv_length l
    have hL : (l.map cvE).length < 4611686018427387904 := by omega
    obtain ⟨b, h1, h2, _⟩ := graphOk_both n (l.map cvE) hL
    refine Ev.rounds (r := true) ?_
    simp only [laws_FnExactGraphOk.f, hs, if_pos h, Option.bind_some]
    simp only [if_neg (show ¬ (1048576 - (l.length : Int) < 0) by omega)]
    refine Ev.bind tg (Ev.bind h2 (Ev.bind tg (Ev.bind h1 ?_)))
    simp only [bne_self_eq_false, Bool.false_eq_true, if_false]
    refine Ev.bind tg (Ev.bind (eqGraph_ev n _ hL) ?_)
    simp only [if_true]
    exact Ev.now _
  · exact ⟨0, by simp [laws_FnExactGraphOk.f, hs, h]⟩

end Go.Proofs.Ytkdhjeimcnackaa.Pure
