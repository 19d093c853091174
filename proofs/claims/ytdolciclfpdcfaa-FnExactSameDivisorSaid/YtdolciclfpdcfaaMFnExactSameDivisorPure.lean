/- The plain statement of the law FnExactSameDivisor, lemmas on the functions that it reaches, and its plain proof. -/
import Derived.Test.YtdolciclfpdcfaaGcf64e5f6d3
import Derived.Test.YtdolciclfpdcfaaGfb3176eed4
import Derived.Test.YtdolciclfpdcfaaGc228f34524
import Derived.Test.YtdolciclfpdcfaaBase
import Derived.Test.YtdolciclfpdcfaaLoops
section
namespace Go.Proofs.Ytdolciclfpdcfaa.Pure
open Go.RowKit Go.Proofs.Ytdolciclfpdcfaa.P Go.Proofs.YtdolciclfpdcfaaW.PrintWords Go.Proofs.YtdolciclfpdcfaaW.PrintLast Go.Proofs.YtdolciclfpdcfaaW.PrintMore
def StatFnExactSameDivisor : Prop := ∀ (l0 : List (Int)) (l1 : List (Int)), (l0.length ≤ maxLen ∧ ∀ x2 ∈ l0, (Lit.int .i64 x2).wf = true) → (l1.length ≤ maxLen ∧ ∀ x2 ∈ l1, (Lit.int .i64 x2).wf = true) → ∃ k, laws_FnExactSameDivisor.f k l0 l1 = some true
end Go.Proofs.Ytdolciclfpdcfaa.Pure
end
section
set_option linter.unusedVariables false
set_option linter.unusedSimpArgs false
namespace Go.Proofs.Ytdolciclfpdcfaa.Pure
open Go.RowKit Go.Proofs.Ytdolciclfpdcfaa.P Go.Proofs.YtdolciclfpdcfaaW.PrintWords Go.Proofs.YtdolciclfpdcfaaW.PrintLast Go.Proofs.YtdolciclfpdcfaaW.PrintMore Go.Proofs.Ytdolciclfpdcfaa.Base Go.Proofs.Ytdolciclfpdcfaa.Loops

theorem toIntS_l0 (l : List Int) (hl : l.length < 4611686018427387904) : ∀ (d k i : Nat) (x : List Int), i + d = l.length → x.length = l.length → x.take i = l.take i → d < k → laws_toIntS.l0 k l x (i : Int) = some l := by
  intro d
  induction d with
  | zero =>
    intro k i x hi hx ht hk
    obtain ⟨k, rfl⟩ := succ_of_lt hk
    simp only [laws_toIntS.l0]
    rw [if_neg (by omega)]
    rw [List.take_of_length_le (by omega), List.take_of_length_le (by omega)] at ht
    rw [ht]
  | succ d ih =>
    intro k i x hi hx ht hk
    obtain ⟨k, rfl⟩ := succ_of_lt hk
    simp only [laws_toIntS.l0]
    rw [if_pos (by omega), if_pos (by omega), if_pos (by omega), wrap_succ (by omega), rd_nat l i (by omega), Int.toNat_natCast]
    refine ih k (i + 1) _ (by omega) (by simpa using hx) ?_ (by omega)
    rw [List.take_succ_eq_append_getElem (by simp; omega), List.take_succ_eq_append_getElem (by omega), List.take_set_of_le (Nat.le_refl _), ht]
    simp

theorem toIntS_ev (l : List Int) (hl : l.length ≤ 1048576) : Ev (fun k => laws_toIntS.f k l) l := by
  refine ev_k l.length fun k hk => ?_
  unfold laws_toIntS.f
  rw [if_pos (by omega), if_pos (by omega)]
  exact toIntS_l0 l (by omega) l.length k 0 _ (by omega) (by simp) (by simp) hk

end Go.Proofs.Ytdolciclfpdcfaa.Pure
end
section
set_option linter.unusedVariables false
set_option linter.unusedSimpArgs false
namespace Go.Proofs.Ytdolciclfpdcfaa.Pure
open Go.RowKit Go.Proofs.Ytdolciclfpdcfaa.P Go.Proofs.YtdolciclfpdcfaaW.PrintWords Go.Proofs.YtdolciclfpdcfaaW.PrintLast Go.Proofs.YtdolciclfpdcfaaW.PrintMore Go.Proofs.Ytdolciclfpdcfaa.Base Go.Proofs.Ytdolciclfpdcfaa.Loops

theorem eqIntS_l0 (l : List Int) (hl : l.length < 4611686018427387904) : ∀ (d k i : Nat), i + d = l.length → d < k → laws_eqIntS.l0 k l l (i : Int) = some true := by
  intro d
  induction d with
  | zero =>
    intro k i hi hk
    obtain ⟨k, rfl⟩ := succ_of_lt hk
    simp only [laws_eqIntS.l0]
    rw [if_neg (by omega)]
  | succ d ih =>
    intro k i hi hk
    obtain ⟨k, rfl⟩ := succ_of_lt hk
    simp only [laws_eqIntS.l0]
    rw [if_pos (by omega), if_pos (by omega), if_pos (by omega), wrap_succ (by omega)]
    exact ih k (i + 1) (by omega) (by omega)

theorem eqIntS_ev (l : List Int) (hl : l.length < 4611686018427387904) : Ev (fun k => laws_eqIntS.f k l l) true := by
  refine ev_k l.length fun k hk => ?_
  unfold laws_eqIntS.f
  simp only [if_true]
  exact eqIntS_l0 l hl l.length k 0 (by omega) hk

end Go.Proofs.Ytdolciclfpdcfaa.Pure
end
section
set_option linter.unusedVariables false
set_option linter.unusedSimpArgs false
namespace Go.Proofs.Ytdolciclfpdcfaa.Pure
open Go.RowKit Go.Proofs.Ytdolciclfpdcfaa.P Go.Proofs.YtdolciclfpdcfaaW.PrintWords Go.Proofs.YtdolciclfpdcfaaW.PrintLast Go.Proofs.YtdolciclfpdcfaaW.PrintMore Go.Proofs.Ytdolciclfpdcfaa.Base Go.Proofs.Ytdolciclfpdcfaa.Loops

theorem same_both (a b : List Int) (ha : a.length < 4611686018427387904) : ∃ r : Bool, Ev (fun k => impl_SameDivisor.f k a b) r ∧ Ev (fun k => spec_SameDivisor.f k a b) r ∧ True := by
  by_cases e : a.length = b.length
  · have main : ∀ (d i : Nat), i + d = a.length → ∃ r : Bool, Ev (fun k => slices_Equal_int_int.l0 k a b (a.length : Int) (i : Int)) r ∧ Ev (fun k => spec_SameDivisor.l0 k b a (a.length : Int) (i : Int)) r := by
      intro d
      induction d with
      | zero =>
        intro i hi
        refine ⟨true, ev_succ ?_, ev_succ ?_⟩
        · simp only [slices_Equal_int_int.l0]; exact ev_ifn (by omega) (Ev.now _)
        · simp only [spec_SameDivisor.l0]; exact ev_ifn (by omega) (Ev.now _)
      | succ d ih =>
        intro i hi
        obtain ⟨r, h1, h2⟩ := ih (i + 1) (by omega)
        by_cases c : rd a (i : Int) = rd b (i : Int)
        · refine ⟨r, ev_succ ?_, ev_succ ?_⟩
          · simp only [slices_Equal_int_int.l0, wrap_succ (show i < 4611686018427387904 by omega)]
            exact ev_ift (by omega) (ev_ift (by omega) (ev_ift (by omega) (ev_ift (by omega) (ev_ift c h1))))
          · simp only [spec_SameDivisor.l0, wrap_succ (show i < 4611686018427387904 by omega)]
            exact ev_ift (by omega) (ev_ift (by omega) (ev_ift (by omega) (ev_ift (by omega) (ev_ift c h2))))
        · refine ⟨false, ev_succ ?_, ev_succ ?_⟩
          · simp only [slices_Equal_int_int.l0]
            exact ev_ift (by omega) (ev_ift (by omega) (ev_ift (by omega) (ev_ift (by omega) (ev_ifn c (Ev.now _)))))
          · simp only [spec_SameDivisor.l0]
            exact ev_ift (by omega) (ev_ift (by omega) (ev_ift (by omega) (ev_ift (by omega) (ev_ifn c (Ev.now _)))))
    obtain ⟨r, h1, h2⟩ := main a.length 0 (by omega)
    refine ⟨r, ?_, ?_, trivial⟩
    · simp only [impl_SameDivisor.f, slices_Equal_int_int.f]
      exact Ev.bind (ev_ift (by omega) h1) (Ev.now _)
    · simp only [spec_SameDivisor.f]
      exact ev_ift (by omega) h2
  · refine ⟨false, ?_, ?_, trivial⟩
    · simp only [impl_SameDivisor.f, slices_Equal_int_int.f]
      exact Ev.bind (ev_ifn (by omega) (Ev.now _)) (Ev.now _)
    · simp only [spec_SameDivisor.f]
      exact ev_ifn (by omega) (Ev.now _)

end Go.Proofs.Ytdolciclfpdcfaa.Pure
end
section
set_option linter.unusedVariables false
set_option linter.unusedSimpArgs false
namespace Go.Proofs.Ytdolciclfpdcfaa.Pure
open Go.RowKit Go.Proofs.Ytdolciclfpdcfaa.P Go.Proofs.YtdolciclfpdcfaaW.PrintWords Go.Proofs.YtdolciclfpdcfaaW.PrintLast Go.Proofs.YtdolciclfpdcfaaW.PrintMore Go.Proofs.Ytdolciclfpdcfaa.Base Go.Proofs.Ytdolciclfpdcfaa.Loops

theorem FnExactSameDivisor : StatFnExactSameDivisor := by
  intro d0 d1 ⟨_, _⟩ ⟨_, _⟩
  refine Ev.rounds (r := true) ?_
  unfold laws_FnExactSameDivisor.f
  by_cases hd0 : (d0.length : Int) > 1048576
  · repeat (first
      | exact Ev.now _
      | dsimp only
      | with_reducible refine ev_ift (by first | rfl | omega) ?_
      | with_reducible refine ev_ifn (by omega) ?_
      | with_reducible refine ev_ifb ?_
      | with_reducible refine ev_ifnn ?_
      | with_reducible refine ev_iff ?_
      | (refine ev_succ ?_; simp only [if_true, laws_FnExactSameDivisor.j0, laws_FnExactSameDivisor.j1, laws_FnExactSameDivisor.j2, laws_FnExactSameDivisor.j3])
      )
  by_cases hd1 : (d1.length : Int) > 1048576
  · repeat (first
      | exact Ev.now _
      | dsimp only
      | with_reducible refine ev_ift (by first | rfl | omega) ?_
      | with_reducible refine ev_ifn (by omega) ?_
      | with_reducible refine ev_ifb ?_
      | with_reducible refine ev_ifnn ?_
      | with_reducible refine ev_iff ?_
      | (refine ev_succ ?_; simp only [if_true, laws_FnExactSameDivisor.j0, laws_FnExactSameDivisor.j1, laws_FnExactSameDivisor.j2, laws_FnExactSameDivisor.j3])
      )
  have hLd0 : d0.length < 4611686018427387904 := by omega
  have td0 := toIntS_ev d0 (by omega)
  have ed0 := eqIntS_ev d0 hLd0
  have hLd1 : d1.length < 4611686018427387904 := by omega
  have td1 := toIntS_ev d1 (by omega)
  have ed1 := eqIntS_ev d1 hLd1
  obtain ⟨b, g1, g2, _⟩ := same_both d0 d1 hLd0
  repeat (first
    | exact Ev.now _
    | dsimp only
    | (with_reducible refine Ev.bind td0 ?_) | (with_reducible refine Ev.bind ed0 ?_) | (with_reducible refine Ev.bind td1 ?_) | (with_reducible refine Ev.bind ed1 ?_) | (with_reducible refine Ev.bind g1 ?_) | (with_reducible refine Ev.bind g2 ?_)
    | with_reducible refine ev_ift (by first | rfl | omega) ?_
    | with_reducible refine ev_ifn (by omega) ?_
    | with_reducible refine ev_ifb ?_
    | with_reducible refine ev_ifnn ?_
    | with_reducible refine ev_iff ?_
    | (refine ev_succ ?_; simp only [if_true, laws_FnExactSameDivisor.j0, laws_FnExactSameDivisor.j1, laws_FnExactSameDivisor.j2, laws_FnExactSameDivisor.j3])
    )

end Go.Proofs.Ytdolciclfpdcfaa.Pure
end
