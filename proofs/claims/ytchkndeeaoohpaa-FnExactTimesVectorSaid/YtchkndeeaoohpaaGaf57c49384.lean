/- Functions of the program as plain Lean functions and that the machine's calls answer as they do, the words of the print that these use, lemmas and plain proofs of laws. Put together by a program of this work that leaves out what nothing uses; Lean checks it. -/
import Derived.Laws.BitsLemmas
import Derived.Test.YtchkndeeaoohpaaGcfbb04e970
import Derived.Test.YtchkndeeaoohpaaGf2b708d33e
section
set_option linter.unusedVariables false
set_option linter.unusedSimpArgs false
namespace Go.Proofs.Ytchkndeeaoohpaa.Pure
open Go.RowKit Go.Proofs.Ytchkndeeaoohpaa.P Go.Proofs.YtchkndeeaoohpaaW.PrintWords Go.Proofs.YtchkndeeaoohpaaW.PrintLast Go.Proofs.YtchkndeeaoohpaaW.PrintMore Go.Proofs.Ytchkndeeaoohpaa.Base Go.Proofs.Ytchkndeeaoohpaa.Loops
theorem markSS_ex (m : List (List Int)) (hl : m.length ≤ 1048576) (hr : ∀ r ∈ m, r.length ≤ 1048576) :
    ∃ (v : Int) (y : List (List Int)), Ev (fun k => laws_markIntSS.f k m 1) (v, y) ∧ 0 ≤ v ∧ v ≤ 1 + 1048576 * 1048576 := by
  have main : ∀ (rest : List (List Int)) (i : Nat) (x : List (List Int)) (v : Int), i ≤ m.length → m.drop i = rest → x.length = m.length → x.drop i = rest → 0 ≤ v → v ≤ 1 + (i : Int) * 1048576 →
      ∃ (v' : Int) (y : List (List Int)), Ev (fun k => laws_markIntSS.l0 k x v (i : Int)) (v', y) ∧ 0 ≤ v' ∧ v' ≤ 1 + (m.length : Int) * 1048576 := by
    intro rest
    induction rest with
    | nil =>
      intro i x v hi hd hx hxd h0 h1
      have : m.length ≤ i := drop_nil hd
      have e : m.length = i := by omega
      refine ⟨v, x, ev_succ ?_, h0, by rw [e]; exact h1⟩
      simp only [laws_markIntSS.l0]
      exact ev_ifn (by omega) (Ev.now _)
    | cons a rest ih =>
      intro i x v hi hd hx hxd h0 h1
      have hlt := drop_lt hd
      have ha : a.length ≤ 1048576 := hr a (by rw [← List.take_append_drop i m, hd]; simp)
      have hg : x.getD i [] = a := get_drop hxd _
      have e := markIntS_ev v h0 a (by omega)
      obtain ⟨v', y, g, g0, g1⟩ := ih (i + 1) (x.set i (mkI v a.length)) (v + (a.length : Int)) (by omega) (drop_next hd) (by simpa using hx) (by
        rw [List.drop_set_of_lt (by omega)]
        exact drop_next hxd) (by omega) (by omega)
      refine ⟨v', y, ev_succ ?_, g0, g1⟩
      simp only [laws_markIntSS.l0, Int.toNat_natCast, hg, wrap_succ (show i < 4611686018427387904 by omega)]
      exact ev_ift (by omega) (ev_ift (by omega) (Ev.bind e g))
  obtain ⟨v, y, g, g0, g1⟩ := main m 0 m 1 (Nat.zero_le _) rfl rfl rfl (by omega) (by omega)
  exact ⟨v, y, g, g0, by omega⟩
theorem FnExactTimesVector : StatFnExactTimesVector := by
  intro l d ⟨hl, hr⟩ _
  have hl' : l.length ≤ 9223372036854775807 := by unfold maxLen at hl; omega
  have hr' : ∀ r ∈ l, r.length ≤ 9223372036854775807 := fun r h => by have := (hr r h).1; unfold maxLen at this; omega
  refine Ev.rounds (r := true) ?_
  obtain ⟨v, es, hv⟩ := szIntSS_ex l hl' hr'
  unfold laws_FnExactTimesVector.f
  by_cases hd : (d.length : Int) > 1048576
  · exact ev_ift hd (Ev.now _)
  refine ev_ifn hd (ev_succ ?_)
  simp only [laws_FnExactTimesVector.j0]
  refine Ev.bind es ?_
  by_cases c : v < 0
  · exact ev_ift c (Ev.now _)
  · refine ev_ifn c ?_
    obtain ⟨h1, h2⟩ := hv (by omega)
    have hL : l.length < 4611686018427387904 := by omega
    have hR : ∀ r ∈ l, r.length < 4611686018427387904 := fun r h => by have := h2 r h; omega
    have tt := toIntSS_ev l h1 h2
    have ee := eqIntSS_ev l hL hR
    have td := toIntS_ev d (by omega)
    have ed := eqIntS_ev d (by omega)
    obtain ⟨b, g1, g2, hb, _⟩ := timesVector_both l d hL hR
    have eb := eqIntS_ev b (by omega)
    obtain ⟨m1, y1, ms, m0, m2⟩ := markSS_ex l h1 h2
    have md := markIntS_ev m1 m0 d (by omega)
    have mb := markIntS_ev 1 (by omega) b (by omega)
    have hh := heldIntS_ev b.length (by omega)
    repeat (first
      | exact Ev.now _
      | dsimp only
      | (with_reducible refine Ev.bind tt ?_) | (with_reducible refine Ev.bind ee ?_) | (with_reducible refine Ev.bind td ?_) | (with_reducible refine Ev.bind ed ?_) | (with_reducible refine Ev.bind g1 ?_) | (with_reducible refine Ev.bind g2 ?_) | (with_reducible refine Ev.bind eb ?_) | (with_reducible refine Ev.bind ms ?_) | (with_reducible refine Ev.bind md ?_) | (with_reducible refine Ev.bind mb ?_) | (with_reducible refine Ev.bind hh ?_)
      | with_reducible refine ev_ift (by first | rfl | with_reducible exact True.intro | omega) ?_
      | with_reducible refine ev_ifn (by omega) ?_
      | with_reducible refine ev_ifb ?_
      | with_reducible refine ev_ifnn ?_
      | with_reducible refine ev_iff ?_
      | (refine ev_succ ?_; simp only [if_true, laws_FnExactTimesVector.j1, laws_FnExactTimesVector.j2, laws_FnExactTimesVector.j3, laws_FnExactTimesVector.j4, laws_FnExactTimesVector.j5, laws_FnExactTimesVector.j6, laws_FnExactTimesVector.j7, laws_FnExactTimesVector.j8, laws_FnExactTimesVector.j9, laws_FnExactTimesVector.j10])
      )
end Go.Proofs.Ytchkndeeaoohpaa.Pure
end
