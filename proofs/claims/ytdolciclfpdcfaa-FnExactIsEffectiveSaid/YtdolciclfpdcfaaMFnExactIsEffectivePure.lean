/- The plain statement of the law FnExactIsEffective, lemmas on the functions that it reaches, and its plain proof. -/
import Derived.Test.YtdolciclfpdcfaaG9c4928da85
import Derived.Test.YtdolciclfpdcfaaGfb3176eed4
import Derived.Test.YtdolciclfpdcfaaGc228f34524
import Derived.Test.YtdolciclfpdcfaaBase
import Derived.Test.YtdolciclfpdcfaaLoops
section
namespace Go.Proofs.Ytdolciclfpdcfaa.Pure
open Go.RowKit Go.Proofs.Ytdolciclfpdcfaa.P Go.Proofs.YtdolciclfpdcfaaW.PrintWords Go.Proofs.YtdolciclfpdcfaaW.PrintLast Go.Proofs.YtdolciclfpdcfaaW.PrintMore
def StatFnExactIsEffective : Prop := ∀ (l0 : List (Int)), (l0.length ≤ maxLen ∧ ∀ x2 ∈ l0, (Lit.int .i64 x2).wf = true) → ∃ k, laws_FnExactIsEffective.f k l0 = some true
end Go.Proofs.Ytdolciclfpdcfaa.Pure
end
section
set_option linter.unusedVariables false
set_option linter.unusedSimpArgs false
namespace Go.Proofs.Ytdolciclfpdcfaa.Pure
open Go.RowKit Go.Proofs.Ytdolciclfpdcfaa.P Go.Proofs.YtdolciclfpdcfaaW.PrintWords Go.Proofs.YtdolciclfpdcfaaW.PrintLast Go.Proofs.YtdolciclfpdcfaaW.PrintMore Go.Proofs.Ytdolciclfpdcfaa.Base Go.Proofs.Ytdolciclfpdcfaa.Loops

theorem toIntS_l0 (l : List Int) (hl : l.length < 4611686018427387904) : ∀ (d k i : Nat) (x : List Int), i + d = l.length → x.length = l.length → x.take i = l.take i → d < k → laws_toIntS.l0 k l x (i : Int) = some l := by
  intro d
  induction d with
  | zero =>
    intro k i x hi hx ht hk
    obtain ⟨k, rfl⟩ := succ_of_lt hk
    simp only [laws_toIntS.l0]
    rw [if_neg (by omega)]
    rw [List.take_of_length_le (by omega), List.take_of_length_le (by omega)] at ht
    rw [ht]
  | succ d ih =>
    intro k i x hi hx ht hk
    obtain ⟨k, rfl⟩ := succ_of_lt hk
    simp only [laws_toIntS.l0]
    rw [if_pos (by omega), if_pos (by omega), if_pos (by omega), wrap_succ (by omega), rd_nat l i (by omega), Int.toNat_natCast]
    refine ih k (i + 1) _ (by omega) (by simpa using hx) ?_ (by omega)
    rw [List.take_succ_eq_append_getElem (by simp; omega), List.take_succ_eq_append_getElem (by omega), List.take_set_of_le (Nat.le_refl _), ht]
    simp

theorem toIntS_ev (l : List Int) (hl : l.length ≤ 1048576) : Ev (fun k => laws_toIntS.f k l) l := by
  refine ev_k l.length fun k hk => ?_
  unfold laws_toIntS.f
  rw [if_pos (by omega), if_pos (by omega)]
  exact toIntS_l0 l (by omega) l.length k 0 _ (by omega) (by simp) (by simp) hk

end Go.Proofs.Ytdolciclfpdcfaa.Pure
end
section
set_option linter.unusedVariables false
set_option linter.unusedSimpArgs false
namespace Go.Proofs.Ytdolciclfpdcfaa.Pure
open Go.RowKit Go.Proofs.Ytdolciclfpdcfaa.P Go.Proofs.YtdolciclfpdcfaaW.PrintWords Go.Proofs.YtdolciclfpdcfaaW.PrintLast Go.Proofs.YtdolciclfpdcfaaW.PrintMore Go.Proofs.Ytdolciclfpdcfaa.Base Go.Proofs.Ytdolciclfpdcfaa.Loops

theorem eqIntS_l0 (l : List Int) (hl : l.length < 4611686018427387904) : ∀ (d k i : Nat), i + d = l.length → d < k → laws_eqIntS.l0 k l l (i : Int) = some true := by
  intro d
  induction d with
  | zero =>
    intro k i hi hk
    obtain ⟨k, rfl⟩ := succ_of_lt hk
    simp only [laws_eqIntS.l0]
    rw [if_neg (by omega)]
  | succ d ih =>
    intro k i hi hk
    obtain ⟨k, rfl⟩ := succ_of_lt hk
    simp only [laws_eqIntS.l0]
    rw [if_pos (by omega), if_pos (by omega), if_pos (by omega), wrap_succ (by omega)]
    exact ih k (i + 1) (by omega) (by omega)

theorem eqIntS_ev (l : List Int) (hl : l.length < 4611686018427387904) : Ev (fun k => laws_eqIntS.f k l l) true := by
  refine ev_k l.length fun k hk => ?_
  unfold laws_eqIntS.f
  simp only [if_true]
  exact eqIntS_l0 l hl l.length k 0 (by omega) hk

end Go.Proofs.Ytdolciclfpdcfaa.Pure
end
section
set_option linter.unusedVariables false
set_option linter.unusedSimpArgs false
namespace Go.Proofs.Ytdolciclfpdcfaa.Pure
open Go.RowKit Go.Proofs.Ytdolciclfpdcfaa.P Go.Proofs.YtdolciclfpdcfaaW.PrintWords Go.Proofs.YtdolciclfpdcfaaW.PrintLast Go.Proofs.YtdolciclfpdcfaaW.PrintMore Go.Proofs.Ytdolciclfpdcfaa.Base Go.Proofs.Ytdolciclfpdcfaa.Loops

theorem effective_both (l : List Int) (hl : l.length < 4611686018427387904) : ∃ b : Bool, Ev (fun k => impl_IsEffective.f k l) b ∧ Ev (fun k => spec_IsEffective.f k l) b ∧ True := by
  have main : ∀ (d i : Nat), i + d = l.length → ∃ b : Bool, Ev (fun k => impl_IsEffective.l0 k l (l.length : Int) (i : Int)) b ∧ Ev (fun k => spec_IsEffective.l0 k l (l.length : Int) (i : Int)) b := by
    intro d
    induction d with
    | zero =>
      intro i hi
      refine ⟨true, ev_succ ?_, ev_succ ?_⟩
      · simp only [impl_IsEffective.l0]; exact ev_ifn (by omega) (Ev.now _)
      · simp only [spec_IsEffective.l0]; exact ev_ifn (by omega) (Ev.now _)
    | succ d ih =>
      intro i hi
      obtain ⟨b, h1, h2⟩ := ih (i + 1) (by omega)
      by_cases c : rd l (i : Int) < 0
      · refine ⟨false, ev_succ ?_, ev_succ ?_⟩
        · simp only [impl_IsEffective.l0]; exact ev_ift (by omega) (ev_ift (by omega) (ev_ift (by omega) (ev_ift c (Ev.now _))))
        · simp only [spec_IsEffective.l0]; exact ev_ift (by omega) (ev_ift (by omega) (ev_ift (by omega) (ev_ift c (Ev.now _))))
      · refine ⟨b, ev_succ ?_, ev_succ ?_⟩
        · simp only [impl_IsEffective.l0, wrap_succ (show i < 4611686018427387904 by omega)]; exact ev_ift (by omega) (ev_ift (by omega) (ev_ift (by omega) (ev_ifn c h1)))
        · simp only [spec_IsEffective.l0, wrap_succ (show i < 4611686018427387904 by omega)]; exact ev_ift (by omega) (ev_ift (by omega) (ev_ift (by omega) (ev_ifn c h2)))
  obtain ⟨b, h1, h2⟩ := main l.length 0 (by omega)
  exact ⟨b, h1, h2, trivial⟩

end Go.Proofs.Ytdolciclfpdcfaa.Pure
end
section
set_option linter.unusedVariables false
set_option linter.unusedSimpArgs false
namespace Go.Proofs.Ytdolciclfpdcfaa.Pure
open Go.RowKit Go.Proofs.Ytdolciclfpdcfaa.P Go.Proofs.YtdolciclfpdcfaaW.PrintWords Go.Proofs.YtdolciclfpdcfaaW.PrintLast Go.Proofs.YtdolciclfpdcfaaW.PrintMore Go.Proofs.Ytdolciclfpdcfaa.Base Go.Proofs.Ytdolciclfpdcfaa.Loops

theorem FnExactIsEffective : StatFnExactIsEffective := by
  intro d0 ⟨_, _⟩
  refine Ev.rounds (r := true) ?_
  unfold laws_FnExactIsEffective.f
  by_cases hd0 : (d0.length : Int) > 1048576
  · repeat (first
      | exact Ev.now _
      | dsimp only
      | with_reducible refine ev_ift (by first | rfl | omega) ?_
      | with_reducible refine ev_ifn (by omega) ?_
      | with_reducible refine ev_ifb ?_
      | with_reducible refine ev_ifnn ?_
      | with_reducible refine ev_iff ?_
      | (refine ev_succ ?_; simp only [if_true, laws_FnExactIsEffective.j0, laws_FnExactIsEffective.j1])
      )
  have hLd0 : d0.length < 4611686018427387904 := by omega
  have td0 := toIntS_ev d0 (by omega)
  have ed0 := eqIntS_ev d0 hLd0
  obtain ⟨b, g1, g2, _⟩ := effective_both d0 hLd0
  repeat (first
    | exact Ev.now _
    | dsimp only
    | (with_reducible refine Ev.bind td0 ?_) | (with_reducible refine Ev.bind ed0 ?_) | (with_reducible refine Ev.bind g1 ?_) | (with_reducible refine Ev.bind g2 ?_)
    | with_reducible refine ev_ift (by first | rfl | omega) ?_
    | with_reducible refine ev_ifn (by omega) ?_
    | with_reducible refine ev_ifb ?_
    | with_reducible refine ev_ifnn ?_
    | with_reducible refine ev_iff ?_
    | (refine ev_succ ?_; simp only [if_true, laws_FnExactIsEffective.j0, laws_FnExactIsEffective.j1])
    )

end Go.Proofs.Ytdolciclfpdcfaa.Pure
end
