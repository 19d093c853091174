/- The program's Valence answers as the reference's at every graph and every number. Graphs of more than 2^20 edges answer true by the law's own first test. -/
import Derived.Test.YtkdhjeimcnackaaPx25
import Derived.Test.YtkdhjeimcnackaaStatFnExactValence
import Derived.Test.YtkdhjeimcnackaaBase
import Derived.Test.YtkdhjeimcnackaaLoops
import Derived.Test.YtkdhjeimcnackaaSval
set_option linter.unusedVariables false
set_option linter.unusedSimpArgs false
namespace Go.Proofs.Ytkdhjeimcnackaa.Pure
open Go.RowKit Go.Proofs.Ytkdhjeimcnackaa.P Go.Proofs.YtkdhjeimcnackaaW.PrintWords Go.Proofs.YtkdhjeimcnackaaW.PrintLast Go.Proofs.YtkdhjeimcnackaaW.PrintMore Go.Proofs.Ytkdhjeimcnackaa.Base Go.Proofs.Ytkdhjeimcnackaa.Loops

theorem FnExactValence : StatFnExactValence := by
  intro n l v ⟨_, hl, _⟩ _
  have hs := szGraph_eq n l hl 1048576 (by omega) (by omega)
  by_cases h : (l.length : Int) ≤ 1048576
  · have tg := toGraph_ev n l (by omega)
    have hm := map_cv_length l
    have hL : (l.map cvE).length < 4611686018427387904 := by omega
    refine Ev.rounds (r := true) ?_
    simp only [laws_FnExactValence.f, hs, if_pos h, Option.bind_some]
    simp only [if_neg (show ¬ (1048576 - (l.length : Int) < 0) by omega)]
    refine Ev.bind tg (Ev.bind (spec_val_ev n _ hL v) (Ev.bind tg (Ev.bind (impl_val_ev n _ hL v) ?_)))
    simp only [if_true]
    refine Ev.bind tg (Ev.bind (eqGraph_ev n _ hL) ?_)
    simp only [if_true]
    exact Ev.now _
  · exact ⟨0, by simp [laws_FnExactValence.f, hs, h]⟩

end Go.Proofs.Ytkdhjeimcnackaa.Pure
