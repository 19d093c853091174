/- The program's SameGraph answers as the reference's at every two graphs. Graphs that have more than 2^20 edges together answer true by the law's own first tests. -/
import Derived.Test.YtkdhjeimcnackaaPx13
import Derived.Test.YtkdhjeimcnackaaPx4
import Derived.Test.YtkdhjeimcnackaaPx8
import Derived.Test.YtkdhjeimcnackaaPx9
import Derived.Test.YtkdhjeimcnackaaStatFnExactSameGraph
import Derived.Test.YtkdhjeimcnackaaBase
import Derived.Test.YtkdhjeimcnackaaLoops
import Derived.Test.YtkdhjeimcnackaaSedgeEq
set_option linter.unusedVariables false
set_option linter.unusedSimpArgs false
namespace Go.Proofs.Ytkdhjeimcnackaa.Pure
open Go.RowKit Go.Proofs.Ytkdhjeimcnackaa.P Go.Proofs.YtkdhjeimcnackaaW.PrintWords Go.Proofs.YtkdhjeimcnackaaW.PrintLast Go.Proofs.YtkdhjeimcnackaaW.PrintMore Go.Proofs.Ytkdhjeimcnackaa.Base Go.Proofs.Ytkdhjeimcnackaa.Loops

theorem impl_same_ev (a b : Int) (l x : List S57) (hl : l.length < 4611686018427387904) : ∃ r : Bool, Ev (fun k => impl_SameGraph.f k a l b x) r ∧ (r = true ↔ a = b ∧ l = x) := by
  simp only [impl_SameGraph.f, slices_Equal_Edge.f]
  by_cases hab : a = b
  · simp only [if_pos hab]
    by_cases hlx : l.length = x.length
    · obtain ⟨r, ⟨K, hr⟩, hiff⟩ := eqE_ends l x hlx (fun k i => slices_Equal_Edge.l0 k l x (l.length : Int) i) (fun k i => by simp only [slices_Equal_Edge.l0]) hl
      refine ⟨r, ⟨K, fun k hk => ?_⟩, by simp [hiff, hab]⟩
      have h2 := hr k hk
      dsimp only at h2 ⊢
      rw [if_pos (by omega), h2]
      rfl
    · refine ⟨false, ev_const fun k => ?_, ?_⟩
      · rw [if_neg (by omega)]; rfl
      · simp
        intro _ h
        exact hlx (by rw [h])
  · simp only [if_neg hab]
    exact ⟨false, Ev.now _, by simp [hab]⟩

theorem spec_same_ev (a b : Int) (l x : List S57) (hl : l.length < 4611686018427387904) : ∃ r : Bool, Ev (fun k => spec_SameGraph.f k a l b x) r ∧ (r = true ↔ a = b ∧ l = x) := by
  simp only [spec_SameGraph.f]
  by_cases hab : a = b
  · simp only [if_pos hab]
    by_cases hlx : l.length = x.length
    · obtain ⟨r, ⟨K, hr⟩, hiff⟩ := eqE_ends l x hlx (fun k i => spec_SameGraph.l0 k l (l.length : Int) i b x) (fun k i => by simp only [spec_SameGraph.l0]) hl
      refine ⟨r, ⟨K + 1, fun k hk => ?_⟩, by simp [hiff, hab]⟩
      obtain ⟨m, rfl⟩ : ∃ m, k = m + 1 := ⟨k - 1, by omega⟩
      have h2 := hr m (by omega)
      dsimp only at h2 ⊢
      simp only [spec_SameGraph.j0]
      rw [if_neg (by simp; omega), h2]
    · refine ⟨false, ev1 fun k => ?_, ?_⟩
      · simp only [spec_SameGraph.j0]
        rw [if_pos (by simp; omega)]
      · simp
        intro _ h
        exact hlx (by rw [h])
  · simp only [if_neg hab]
    refine ⟨false, ev1 fun k => ?_, by simp [hab]⟩
    simp only [spec_SameGraph.j0, if_true]

theorem FnExactSameGraph : StatFnExactSameGraph := by
  intro n l m x ⟨_, hl, _⟩ ⟨_, hx, _⟩
  have hs := szGraph_eq n l hl 1048576 (by omega) (by omega)
  by_cases h : (l.length : Int) ≤ 1048576
  · have hs' := szGraph_eq m x hx (1048576 - l.length) (by omega) (by omega)
    simp only [laws_FnExactSameGraph.f, hs, if_pos h, Option.bind_some]
    by_cases h' : (x.length : Int) ≤ 1048576 - l.length
    · have tl := toGraph_ev n l (by omega)
      have tx := toGraph_ev m x (by omega)
      have hml := map_cv_length l
      have hmx := map_cv_length x
      have hL : (l.map cvE).length < 4611686018427387904 := by omega
      have hX : (x.map cvE).length < 4611686018427387904 := by omega
      obtain ⟨r, h1, i1⟩ := spec_same_ev n m (l.map cvE) (x.map cvE) hL
      obtain ⟨r', h2, i2⟩ := impl_same_ev n m (l.map cvE) (x.map cvE) hL
      have hr : r' = r := by rw [Bool.eq_iff_iff, i1, i2]
      subst hr
      refine Ev.rounds (r := true) ?_
      simp only [if_neg (show ¬ (1048576 - (l.length : Int) < 0) by omega), hs', if_pos h', Option.bind_some, if_neg (show ¬ (1048576 - (l.length : Int) - x.length < 0) by omega)]
      refine Ev.bind tl (Ev.bind tx (Ev.bind h1 (Ev.bind tl (Ev.bind tx (Ev.bind h2 ?_)))))
      simp only [bne_self_eq_false, Bool.false_eq_true, if_false]
      refine Ev.bind tl (Ev.bind (eqGraph_ev n _ hL) ?_)
      simp only [if_true]
      refine Ev.bind tx (Ev.bind (eqGraph_ev m _ hX) ?_)
      simp only [if_true]
      exact Ev.now _
    · exact ⟨0, by rw [if_neg (by omega), hs', if_neg h']; rfl⟩
  · exact ⟨0, by simp [laws_FnExactSameGraph.f, hs, h]⟩

end Go.Proofs.Ytkdhjeimcnackaa.Pure
