/- The plain statement of the law FnExactIsDigits, lemmas on the functions that it reaches, and its plain proof. -/
import Derived.Test.YtdolciclfpdcfaaG4b4a11c23b
import Derived.Test.YtdolciclfpdcfaaGc228f34524
import Derived.Test.YtdolciclfpdcfaaBase
import Derived.Test.YtdolciclfpdcfaaLoops
section
namespace Go.Proofs.Ytdolciclfpdcfaa.Pure
open Go.RowKit Go.Proofs.Ytdolciclfpdcfaa.P Go.Proofs.YtdolciclfpdcfaaW.PrintWords Go.Proofs.YtdolciclfpdcfaaW.PrintLast Go.Proofs.YtdolciclfpdcfaaW.PrintMore
def StatFnExactIsDigits : Prop := ∀ (a0 : ByteArray), a0.size ≤ maxLen → ∃ k, laws_FnExactIsDigits.f k a0 = some true
end Go.Proofs.Ytdolciclfpdcfaa.Pure
end
section
set_option linter.unusedVariables false
set_option linter.unusedSimpArgs false
namespace Go.Proofs.Ytdolciclfpdcfaa.Pure
open Go.RowKit Go.Proofs.Ytdolciclfpdcfaa.P Go.Proofs.YtdolciclfpdcfaaW.PrintWords Go.Proofs.YtdolciclfpdcfaaW.PrintLast Go.Proofs.YtdolciclfpdcfaaW.PrintMore Go.Proofs.Ytdolciclfpdcfaa.Base Go.Proofs.Ytdolciclfpdcfaa.Loops

theorem digits_both (s : ByteArray) (hs : s.size < 4611686018427387904) : ∃ b : Bool, Ev (fun k => impl_IsDigits.f k s) b ∧ Ev (fun k => spec_IsDigits.f k s) b ∧ True := by
  have e : (s.toList != ([] : List UInt8)) = decide ((s.size : Int) > 0) := by
    have h1 : s.toList.length = s.size := by rw [ByteArray.toList_eq]; simp
    generalize s.toList = L at h1 ⊢
    cases L with
    | nil =>
      have h2 : s.size = 0 := by simpa using h1.symm
      rw [h2]; rfl
    | cons a l =>
      have h2 : 0 < s.size := by rw [← h1]; simp
      rw [show ((a :: l) != ([] : List UInt8)) = true from rfl]
      exact (decide_eq_true (by omega)).symm
  have main : ∀ (d i : Nat), i + d = s.size → ∃ b : Bool, Ev (fun k => impl_IsDigits.l0 k s (i : Int)) b ∧ Ev (fun k => spec_IsDigits.l0 k s (i : Int)) b := by
    intro d
    induction d with
    | zero =>
      intro i hi
      refine ⟨decide ((s.size : Int) > 0), ev_succ ?_, ev_succ ?_⟩
      · simp only [impl_IsDigits.l0, e]; exact ev_ifn (by omega) (Ev.now _)
      · simp only [spec_IsDigits.l0]; exact ev_ifn (by omega) (Ev.now _)
    | succ d ih =>
      intro i hi
      obtain ⟨b, h1, h2⟩ := ih (i + 1) (by omega)
      by_cases c1 : bt s (i : Int) < 48
      · refine ⟨false, ev_succ ?_, ev_succ ?_⟩
        · simp only [impl_IsDigits.l0]; exact ev_ift (by omega) (ev_ift (by omega) (ev_ift c1 (Ev.now _)))
        · simp only [spec_IsDigits.l0]; exact ev_ift (by omega) (ev_ift (by omega) (ev_ift c1 (Ev.now _)))
      · by_cases c2 : bt s (i : Int) > 57
        · refine ⟨false, ev_succ ?_, ev_succ ?_⟩
          · simp only [impl_IsDigits.l0]; exact ev_ift (by omega) (ev_ift (by omega) (ev_ifn c1 (ev_ift c2 (Ev.now _))))
          · simp only [spec_IsDigits.l0]; exact ev_ift (by omega) (ev_ift (by omega) (ev_ifn c1 (ev_ift c2 (Ev.now _))))
        · refine ⟨b, ev_succ ?_, ev_succ ?_⟩
          · simp only [impl_IsDigits.l0, wrap_succ (show i < 4611686018427387904 by omega)]; exact ev_ift (by omega) (ev_ift (by omega) (ev_ifn c1 (ev_ifn c2 h1)))
          · simp only [spec_IsDigits.l0, wrap_succ (show i < 4611686018427387904 by omega)]; exact ev_ift (by omega) (ev_ift (by omega) (ev_ifn c1 (ev_ifn c2 h2)))
  obtain ⟨b, h1, h2⟩ := main s.size 0 (by omega)
  exact ⟨b, h1, h2, trivial⟩

end Go.Proofs.Ytdolciclfpdcfaa.Pure
end
section
set_option linter.unusedVariables false
set_option linter.unusedSimpArgs false
namespace Go.Proofs.Ytdolciclfpdcfaa.Pure
open Go.RowKit Go.Proofs.Ytdolciclfpdcfaa.P Go.Proofs.YtdolciclfpdcfaaW.PrintWords Go.Proofs.YtdolciclfpdcfaaW.PrintLast Go.Proofs.YtdolciclfpdcfaaW.PrintMore Go.Proofs.Ytdolciclfpdcfaa.Base Go.Proofs.Ytdolciclfpdcfaa.Loops

theorem FnExactIsDigits : StatFnExactIsDigits := by
  intro s0 _
  refine Ev.rounds (r := true) ?_
  unfold laws_FnExactIsDigits.f
  by_cases hs0 : (s0.size : Int) > 1048576
  · repeat (first
      | exact Ev.now _
      | dsimp only
      | with_reducible refine ev_ift (by first | rfl | omega) ?_
      | with_reducible refine ev_ifn (by omega) ?_
      | with_reducible refine ev_ifb ?_
      | with_reducible refine ev_ifnn ?_
      | with_reducible refine ev_iff ?_
      | (refine ev_succ ?_; simp only [if_true, laws_FnExactIsDigits.j0])
      )
  obtain ⟨b, g1, g2, _⟩ := digits_both s0 (by omega)
  repeat (first
    | exact Ev.now _
    | dsimp only
    | (with_reducible refine Ev.bind g1 ?_) | (with_reducible refine Ev.bind g2 ?_)
    | with_reducible refine ev_ift (by first | rfl | omega) ?_
    | with_reducible refine ev_ifn (by omega) ?_
    | with_reducible refine ev_ifb ?_
    | with_reducible refine ev_ifnn ?_
    | with_reducible refine ev_iff ?_
    | (refine ev_succ ?_; simp only [if_true, laws_FnExactIsDigits.j0])
    )

end Go.Proofs.Ytdolciclfpdcfaa.Pure
end
