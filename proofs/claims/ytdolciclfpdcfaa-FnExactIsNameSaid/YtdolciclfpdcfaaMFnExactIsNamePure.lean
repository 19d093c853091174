/- The plain statement of the law FnExactIsName, lemmas on the functions that it reaches, and its plain proof. -/
import Derived.Test.YtdolciclfpdcfaaGad8edab1ab
import Derived.Test.YtdolciclfpdcfaaGc228f34524
import Derived.Test.YtdolciclfpdcfaaBase
import Derived.Test.YtdolciclfpdcfaaLoops
section
namespace Go.Proofs.Ytdolciclfpdcfaa.Pure
open Go.RowKit Go.Proofs.Ytdolciclfpdcfaa.P Go.Proofs.YtdolciclfpdcfaaW.PrintWords Go.Proofs.YtdolciclfpdcfaaW.PrintLast Go.Proofs.YtdolciclfpdcfaaW.PrintMore
def StatFnExactIsName : Prop := ∀ (a0 : ByteArray), a0.size ≤ maxLen → ∃ k, laws_FnExactIsName.f k a0 = some true
end Go.Proofs.Ytdolciclfpdcfaa.Pure
end
section
set_option linter.unusedVariables false
set_option linter.unusedSimpArgs false
namespace Go.Proofs.Ytdolciclfpdcfaa.Pure
open Go.RowKit Go.Proofs.Ytdolciclfpdcfaa.P Go.Proofs.YtdolciclfpdcfaaW.PrintWords Go.Proofs.YtdolciclfpdcfaaW.PrintLast Go.Proofs.YtdolciclfpdcfaaW.PrintMore Go.Proofs.Ytdolciclfpdcfaa.Base Go.Proofs.Ytdolciclfpdcfaa.Loops

theorem in1_eq (a b c : Int) : spec_l01In.f a b c = some (decide (b ≤ a ∧ a ≤ c)) := by
  unfold spec_l01In.f
  by_cases h : a ≥ b
  · rw [if_pos h]; simp; omega
  · rw [if_neg h]; simp; omega

theorem name_both (s : ByteArray) (hs : s.size < 4611686018427387904) : ∃ b : Bool, Ev (fun k => impl_IsName.f k s) b ∧ Ev (fun k => spec_IsName.f k s) b ∧ True := by
  have main : ∀ (d i : Nat), i + d = s.size → ∃ b : Bool, Ev (fun k => impl_IsName.l0 k s (i : Int)) b ∧ Ev (fun k => spec_IsName.l0 k s (i : Int)) (b && decide (1 ≤ (s.size : Int) ∧ (s.size : Int) ≤ 8)) := by
    intro d
    induction d with
    | zero =>
      intro i hi
      refine ⟨true, ev_succ ?_, ev_succ ?_⟩
      · simp only [impl_IsName.l0]; exact ev_ifn (by omega) (Ev.now _)
      · simp only [spec_IsName.l0, in1_eq, Option.bind_some, Bool.true_and]; exact ev_ifn (by omega) (Ev.now _)
    | succ d ih =>
      intro i hi
      obtain ⟨b, h1, h2⟩ := ih (i + 1) (by omega)
      have b1 : ∀ q : Bool, q = true → Ev (fun k => spec_IsName.j1 k s (i : Int) q) false := fun q hq => ev_succ (by simp only [spec_IsName.j1]; exact ev_ift hq (Ev.now _))
      have b2 : ∀ q : Bool, q = true → Ev (fun k => spec_IsName.j2 k s (i : Int) q) false := fun q hq => ev_succ (by simp only [spec_IsName.j2]; exact ev_ift hq (Ev.now _))
      have b3 : ∀ q : Bool, q = true → Ev (fun k => impl_IsName.j2 k s (i : Int) q) false := fun q hq => ev_succ (by simp only [impl_IsName.j2]; exact ev_ift hq (Ev.now _))
      have b4 : ∀ q : Bool, q = true → Ev (fun k => impl_IsName.j3 k s (i : Int) q) false := fun q hq => ev_succ (by simp only [impl_IsName.j3]; exact ev_ift hq (Ev.now _))
      have g1 : ∀ q : Bool, q = false → Ev (fun k => spec_IsName.j1 k s (i : Int) q) _ := fun q hq => ev_succ (by simp only [spec_IsName.j1, wrap_succ (show i < 4611686018427387904 by omega)]; exact ev_ifn (by simp [hq]) h2)
      have g2 : ∀ q : Bool, q = false → Ev (fun k => spec_IsName.j2 k s (i : Int) q) _ := fun q hq => ev_succ (by simp only [spec_IsName.j2, wrap_succ (show i < 4611686018427387904 by omega)]; exact ev_ifn (by simp [hq]) h2)
      have g3 : ∀ q : Bool, q = false → Ev (fun k => impl_IsName.j2 k s (i : Int) q) b := fun q hq => ev_succ (by simp only [impl_IsName.j2, wrap_succ (show i < 4611686018427387904 by omega)]; exact ev_ifn (by simp [hq]) h1)
      have g4 : ∀ q : Bool, q = false → Ev (fun k => impl_IsName.j3 k s (i : Int) q) b := fun q hq => ev_succ (by simp only [impl_IsName.j3, wrap_succ (show i < 4611686018427387904 by omega)]; exact ev_ifn (by simp [hq]) h1)
      by_cases good : (97 ≤ bt s (i : Int) ∧ bt s (i : Int) ≤ 122) ∨ (i ≠ 0 ∧ 48 ≤ bt s (i : Int) ∧ bt s (i : Int) ≤ 57)
      · refine ⟨b, ev_succ ?_, ev_succ ?_⟩
        · simp only [impl_IsName.l0, wrap_succ (show i < 4611686018427387904 by omega)]
          by_cases c1 : bt s (i : Int) ≥ 97 <;> by_cases c2 : bt s (i : Int) ≥ 48 <;> by_cases c3 : bt s (i : Int) ≤ 122 <;> by_cases c4 : (i : Int) = 0 <;> by_cases c5 : bt s (i : Int) ≤ 57 <;>
            first
              | (exfalso; omega)
              | (repeat (first | with_reducible refine ev_ift (by omega) ?_ | with_reducible refine ev_ifn (by omega) ?_)
                 first | exact h1 | exact g3 _ (by first | rfl | (simp; omega)) | exact g4 _ (by first | rfl | (simp; omega)))
        · simp only [spec_IsName.l0, wrap_succ (show i < 4611686018427387904 by omega)]
          by_cases c1 : bt s (i : Int) ≥ 97 <;> by_cases c2 : bt s (i : Int) < 48 <;> by_cases c3 : bt s (i : Int) ≤ 122 <;> by_cases c4 : (i : Int) = 0 <;> by_cases c5 : bt s (i : Int) > 57 <;>
            first
              | (exfalso; omega)
              | (repeat (first | with_reducible refine ev_ift (by omega) ?_ | with_reducible refine ev_ifn (by omega) ?_)
                 first | exact g1 _ (by first | rfl | (simp; omega)) | exact g2 _ (by first | rfl | (simp; omega)))
      · refine ⟨false, ev_succ ?_, ev_succ ?_⟩
        · simp only [impl_IsName.l0, wrap_succ (show i < 4611686018427387904 by omega)]
          by_cases c1 : bt s (i : Int) ≥ 97 <;> by_cases c2 : bt s (i : Int) ≥ 48 <;> by_cases c3 : bt s (i : Int) ≤ 122 <;> by_cases c4 : (i : Int) = 0 <;> by_cases c5 : bt s (i : Int) ≤ 57 <;>
            first
              | (exfalso; omega)
              | (repeat (first | with_reducible refine ev_ift (by omega) ?_ | with_reducible refine ev_ifn (by omega) ?_)
                 first | exact Ev.now _ | exact b3 _ (by first | rfl | (simp; omega)) | exact b4 _ (by first | rfl | (simp; omega)))
        · simp only [spec_IsName.l0, wrap_succ (show i < 4611686018427387904 by omega), Bool.false_and]
          by_cases c1 : bt s (i : Int) ≥ 97 <;> by_cases c2 : bt s (i : Int) < 48 <;> by_cases c3 : bt s (i : Int) ≤ 122 <;> by_cases c4 : (i : Int) = 0 <;> by_cases c5 : bt s (i : Int) > 57 <;>
            first
              | (exfalso; omega)
              | (repeat (first | with_reducible refine ev_ift (by omega) ?_ | with_reducible refine ev_ifn (by omega) ?_)
                 first | exact b1 _ (by first | rfl | (simp; omega)) | exact b2 _ (by first | rfl | (simp; omega)))
  obtain ⟨b, h1, h2⟩ := main s.size 0 (by omega)
  have ht : ∀ q : Bool, q = true → Ev (fun k => impl_IsName.j0 k s q) false := fun q hq => ev_succ (by simp only [impl_IsName.j0]; exact ev_ift hq (Ev.now _))
  by_cases c : 1 ≤ (s.size : Int) ∧ (s.size : Int) ≤ 8
  · rw [decide_eq_true c, Bool.and_true] at h2
    refine ⟨b, ?_, h2, trivial⟩
    simp only [impl_IsName.f]
    refine ev_ifn (by omega) (ev_succ ?_)
    simp only [impl_IsName.j0]
    exact ev_ifn (by simp; omega) h1
  · rw [decide_eq_false c, Bool.and_false] at h2
    refine ⟨false, ?_, h2, trivial⟩
    simp only [impl_IsName.f]
    by_cases c1 : (s.size : Int) < 1
    · exact ev_ift c1 (ht _ rfl)
    · exact ev_ifn c1 (ht _ (by simp; omega))

end Go.Proofs.Ytdolciclfpdcfaa.Pure
end
section
set_option linter.unusedVariables false
set_option linter.unusedSimpArgs false
namespace Go.Proofs.Ytdolciclfpdcfaa.Pure
open Go.RowKit Go.Proofs.Ytdolciclfpdcfaa.P Go.Proofs.YtdolciclfpdcfaaW.PrintWords Go.Proofs.YtdolciclfpdcfaaW.PrintLast Go.Proofs.YtdolciclfpdcfaaW.PrintMore Go.Proofs.Ytdolciclfpdcfaa.Base Go.Proofs.Ytdolciclfpdcfaa.Loops

theorem FnExactIsName : StatFnExactIsName := by
  intro s0 _
  refine Ev.rounds (r := true) ?_
  unfold laws_FnExactIsName.f
  by_cases hs0 : (s0.size : Int) > 1048576
  · repeat (first
      | exact Ev.now _
      | dsimp only
      | with_reducible refine ev_ift (by first | rfl | omega) ?_
      | with_reducible refine ev_ifn (by omega) ?_
      | with_reducible refine ev_ifb ?_
      | with_reducible refine ev_ifnn ?_
      | with_reducible refine ev_iff ?_
      | (refine ev_succ ?_; simp only [if_true, laws_FnExactIsName.j0])
      )
  obtain ⟨b, g1, g2, _⟩ := name_both s0 (by omega)
  repeat (first
    | exact Ev.now _
    | dsimp only
    | (with_reducible refine Ev.bind g1 ?_) | (with_reducible refine Ev.bind g2 ?_)
    | with_reducible refine ev_ift (by first | rfl | omega) ?_
    | with_reducible refine ev_ifn (by omega) ?_
    | with_reducible refine ev_ifb ?_
    | with_reducible refine ev_ifnn ?_
    | with_reducible refine ev_iff ?_
    | (refine ev_succ ?_; simp only [if_true, laws_FnExactIsName.j0])
    )

end Go.Proofs.Ytdolciclfpdcfaa.Pure
end
