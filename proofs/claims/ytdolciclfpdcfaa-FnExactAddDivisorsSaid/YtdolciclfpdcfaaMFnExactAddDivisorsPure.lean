/- The plain statement of the law FnExactAddDivisors, lemmas on the functions that it reaches, and its plain proof. -/
import Derived.Test.YtdolciclfpdcfaaG19158302ab
import Derived.Test.YtdolciclfpdcfaaGc228f34524
import Derived.Test.YtdolciclfpdcfaaBase
import Derived.Test.YtdolciclfpdcfaaLoops
import Derived.Test.YtdolciclfpdcfaaGea278c5c5b
import Derived.Test.YtdolciclfpdcfaaGe7707ce2e7
import Derived.Test.YtdolciclfpdcfaaGfb3176eed4
section
namespace Go.Proofs.Ytdolciclfpdcfaa.Pure
open Go.RowKit Go.Proofs.Ytdolciclfpdcfaa.P Go.Proofs.YtdolciclfpdcfaaW.PrintWords Go.Proofs.YtdolciclfpdcfaaW.PrintLast Go.Proofs.YtdolciclfpdcfaaW.PrintMore
def StatFnExactAddDivisors : Prop := ∀ (l0 : List (Int)) (l1 : List (Int)), (l0.length ≤ maxLen ∧ ∀ x2 ∈ l0, (Lit.int .i64 x2).wf = true) → (l1.length ≤ maxLen ∧ ∀ x2 ∈ l1, (Lit.int .i64 x2).wf = true) → ∃ k, laws_FnExactAddDivisors.f k l0 l1 = some true
end Go.Proofs.Ytdolciclfpdcfaa.Pure
end
section
set_option linter.unusedVariables false
set_option linter.unusedSimpArgs false
namespace Go.Proofs.Ytdolciclfpdcfaa.Pure
open Go.RowKit Go.Proofs.Ytdolciclfpdcfaa.P Go.Proofs.YtdolciclfpdcfaaW.PrintWords Go.Proofs.YtdolciclfpdcfaaW.PrintLast Go.Proofs.YtdolciclfpdcfaaW.PrintMore Go.Proofs.Ytdolciclfpdcfaa.Base Go.Proofs.Ytdolciclfpdcfaa.Loops

/-- A list that is built number by number. -/
theorem range_build (m : Nat) (F : Nat → Int) (g : Nat → List Int → Int → Option (List Int)) (hend : ∀ x : List Int, Ev (fun k => g k x (m : Int)) x)
    (hstep : ∀ (x : List Int) (i : Nat), i < m → x.length = i → ∀ r, Ev (fun k => g k (x ++ [F i]) ((i + 1 : Nat) : Int)) r → Ev (fun k => g k x (i : Int)) r) :
    Ev (fun k => g k [] 0) ((List.range m).map F) := by
  have main : ∀ (d i : Nat), i + d = m → Ev (fun k => g k ((List.range i).map F) (i : Int)) ((List.range m).map F) := by
    intro d
    induction d with
    | zero => intro i hi; obtain rfl : i = m := by omega
              exact hend _
    | succ d ih =>
      intro i hi
      refine hstep _ i (by omega) (by simp) _ ?_
      have h := ih (i + 1) (by omega)
      rw [List.range_succ, List.map_append] at h
      exact h
  exact main m 0 (by omega)

theorem getD_set0 (x : List Int) (i j : Nat) (c : Int) (hi : i < x.length) : (x.set i c).getD j 0 = if i = j then c else x.getD j 0 := by
  simp only [List.getD_eq_getElem?_getD, List.getElem?_set]
  by_cases e : i = j
  · subst e; simp [hi]
  · simp [e]

theorem list_eq0 {x y : List Int} (h : x.length = y.length) (hu : ∀ u, u < x.length → x.getD u 0 = y.getD u 0) : x = y := by
  refine List.ext_getElem h fun i h1 h2 => ?_
  have := hu i h1
  simp only [List.getD_eq_getElem?_getD, List.getElem?_eq_getElem h1, List.getElem?_eq_getElem h2, Option.getD_some] at this
  exact this

/-- A list whose elements are changed one by one. -/
theorem inplace_ev (l R : List Int) (hR : R.length = l.length) (g : Nat → List Int → Int → Option (List Int)) (hend : ∀ x : List Int, x.length = l.length → Ev (fun k => g k x (l.length : Int)) x)
    (hstep : ∀ (x : List Int) (i : Nat), i < l.length → x.length = l.length → x.getD i 0 = l.getD i 0 → ∀ r, Ev (fun k => g k (x.set i (R.getD i 0)) ((i + 1 : Nat) : Int)) r → Ev (fun k => g k x (i : Int)) r) :
    Ev (fun k => g k l 0) R := by
  have main : ∀ (d i : Nat) (x : List Int), i + d = l.length → x.length = l.length → (∀ j, j < i → x.getD j 0 = R.getD j 0) → (∀ j, i ≤ j → x.getD j 0 = l.getD j 0) → Ev (fun k => g k x (i : Int)) R := by
    intro d
    induction d with
    | zero =>
      intro i x hi hx h1 _
      obtain rfl : i = l.length := by omega
      have e : x = R := list_eq0 (by omega) (fun u hu => h1 u (by omega))
      subst e
      exact hend x hx
    | succ d ih =>
      intro i x hi hx h1 h2
      refine hstep x i (by omega) hx (h2 i (Nat.le_refl _)) _ (ih (i + 1) _ (by omega) (by simpa using hx) (fun j hj => ?_) (fun j hj => ?_))
      · rw [getD_set0 _ _ _ _ (by omega)]
        by_cases e : i = j
        · subst e; rw [if_pos rfl]
        · rw [if_neg e]; exact h1 j (by omega)
      · rw [getD_set0 _ _ _ _ (by omega), if_neg (by omega)]
        exact h2 j (by omega)
  exact main l.length 0 l (by omega) rfl (fun j hj => by omega) (fun j _ => rfl)

theorem getD_range (F : Nat → Int) (m i : Nat) (h : i < m) : ((List.range m).map F).getD i 0 = F i := by
  simp [List.getD_eq_getElem?_getD, h]

end Go.Proofs.Ytdolciclfpdcfaa.Pure
end
section
set_option linter.unusedVariables false
set_option linter.unusedSimpArgs false
namespace Go.Proofs.Ytdolciclfpdcfaa.Pure
open Go.RowKit Go.Proofs.Ytdolciclfpdcfaa.P Go.Proofs.YtdolciclfpdcfaaW.PrintWords Go.Proofs.YtdolciclfpdcfaaW.PrintLast Go.Proofs.YtdolciclfpdcfaaW.PrintMore Go.Proofs.Ytdolciclfpdcfaa.Base Go.Proofs.Ytdolciclfpdcfaa.Loops

def plusL (a b : List Int) : List Int := (List.range a.length).map fun i : Nat => wrap64 (a.getD i 0 + b.getD i 0)
def minusL (a b : List Int) : List Int := (List.range a.length).map fun i : Nat => wrap64 (a.getD i 0 - b.getD i 0)
def negL (a : List Int) : List Int := (List.range a.length).map fun i : Nat => wrap64 (-(a.getD i 0))

theorem copyI_eq (l : List Int) (h : l.length < 17592186044416) : impl_copyInts.f l = some l := by
  unfold impl_copyInts.f
  rw [if_pos (by simpa using h)]; rfl

theorem impl_plus_ev (a b : List Int) (ha : a.length < 17592186044416) (hab : a.length = b.length) : Ev (fun k => impl_plus.f k a b) (plusL a b) := by
  simp only [impl_plus.f, copyI_eq a ha, Option.bind_some]
  refine inplace_ev a (plusL a b) (by simp [plusL]) (fun k x i => impl_plus.l0 k b x (a.length : Int) i) (fun x hx => ev1 fun k => ?_) (fun x i hi hx hg r hr => ev_succ ?_)
  · simp only [impl_plus.l0]
    rw [if_neg (by omega)]
  · have e1 : wrap64 (rd x i + rd b i) = (plusL a b).getD i 0 := by
      unfold plusL
      rw [getD_range _ _ _ hi, ← hg]; rfl
    simp only [impl_plus.l0, wrap_succ (show i < 4611686018427387904 by omega), e1, Int.toNat_natCast]
    exact ev_ift (by omega) (ev_ift (by omega) (ev_ift (by omega) (ev_ift (by omega) hr)))

theorem impl_neg_ev (a : List Int) (ha : a.length < 17592186044416) : Ev (fun k => impl_NegateDivisor.f k a) (negL a) := by
  simp only [impl_NegateDivisor.f, copyI_eq a ha, Option.bind_some]
  refine inplace_ev a (negL a) (by simp [negL]) (fun k x i => impl_NegateDivisor.l0 k x (a.length : Int) i) (fun x hx => ev1 fun k => ?_) (fun x i hi hx hg r hr => ev_succ ?_)
  · simp only [impl_NegateDivisor.l0]
    rw [if_neg (by omega)]
  · have e1 : wrap64 (-(rd x i)) = (negL a).getD i 0 := by
      unfold negL
      rw [getD_range _ _ _ hi, ← hg]; rfl
    simp only [impl_NegateDivisor.l0, wrap_succ (show i < 4611686018427387904 by omega), e1, Int.toNat_natCast]
    exact ev_ift (by omega) (ev_ift (by omega) (ev_ift (by omega) hr))

theorem plus_neg (a b : List Int) (h : a.length = b.length) : plusL a (negL b) = minusL a b := by
  unfold plusL minusL
  refine List.map_congr_left fun i hi => ?_
  have hi' : i < b.length := by have := List.mem_range.1 hi; omega
  show wrap64 (a.getD i 0 + ((List.range b.length).map fun i : Nat => wrap64 (-(b.getD i 0))).getD i 0) = _
  rw [getD_range _ _ _ hi', wrap_add_wrap]
  congr 1

end Go.Proofs.Ytdolciclfpdcfaa.Pure
end
section
set_option linter.unusedVariables false
set_option linter.unusedSimpArgs false
namespace Go.Proofs.Ytdolciclfpdcfaa.Pure
open Go.RowKit Go.Proofs.Ytdolciclfpdcfaa.P Go.Proofs.YtdolciclfpdcfaaW.PrintWords Go.Proofs.YtdolciclfpdcfaaW.PrintLast Go.Proofs.YtdolciclfpdcfaaW.PrintMore Go.Proofs.Ytdolciclfpdcfaa.Base Go.Proofs.Ytdolciclfpdcfaa.Loops

theorem toIntS_l0 (l : List Int) (hl : l.length < 4611686018427387904) : ∀ (d k i : Nat) (x : List Int), i + d = l.length → x.length = l.length → x.take i = l.take i → d < k → laws_toIntS.l0 k l x (i : Int) = some l := by
  intro d
  induction d with
  | zero =>
    intro k i x hi hx ht hk
    obtain ⟨k, rfl⟩ := succ_of_lt hk
    simp only [laws_toIntS.l0]
    rw [if_neg (by omega)]
    rw [List.take_of_length_le (by omega), List.take_of_length_le (by omega)] at ht
    rw [ht]
  | succ d ih =>
    intro k i x hi hx ht hk
    obtain ⟨k, rfl⟩ := succ_of_lt hk
    simp only [laws_toIntS.l0]
    rw [if_pos (by omega), if_pos (by omega), if_pos (by omega), wrap_succ (by omega), rd_nat l i (by omega), Int.toNat_natCast]
    refine ih k (i + 1) _ (by omega) (by simpa using hx) ?_ (by omega)
    rw [List.take_succ_eq_append_getElem (by simp; omega), List.take_succ_eq_append_getElem (by omega), List.take_set_of_le (Nat.le_refl _), ht]
    simp

theorem toIntS_ev (l : List Int) (hl : l.length ≤ 1048576) : Ev (fun k => laws_toIntS.f k l) l := by
  refine ev_k l.length fun k hk => ?_
  unfold laws_toIntS.f
  rw [if_pos (by omega), if_pos (by omega)]
  exact toIntS_l0 l (by omega) l.length k 0 _ (by omega) (by simp) (by simp) hk

end Go.Proofs.Ytdolciclfpdcfaa.Pure
end
section
set_option linter.unusedVariables false
set_option linter.unusedSimpArgs false
namespace Go.Proofs.Ytdolciclfpdcfaa.Pure
open Go.RowKit Go.Proofs.Ytdolciclfpdcfaa.P Go.Proofs.YtdolciclfpdcfaaW.PrintWords Go.Proofs.YtdolciclfpdcfaaW.PrintLast Go.Proofs.YtdolciclfpdcfaaW.PrintMore Go.Proofs.Ytdolciclfpdcfaa.Base Go.Proofs.Ytdolciclfpdcfaa.Loops

theorem eqIntS_l0 (l : List Int) (hl : l.length < 4611686018427387904) : ∀ (d k i : Nat), i + d = l.length → d < k → laws_eqIntS.l0 k l l (i : Int) = some true := by
  intro d
  induction d with
  | zero =>
    intro k i hi hk
    obtain ⟨k, rfl⟩ := succ_of_lt hk
    simp only [laws_eqIntS.l0]
    rw [if_neg (by omega)]
  | succ d ih =>
    intro k i hi hk
    obtain ⟨k, rfl⟩ := succ_of_lt hk
    simp only [laws_eqIntS.l0]
    rw [if_pos (by omega), if_pos (by omega), if_pos (by omega), wrap_succ (by omega)]
    exact ih k (i + 1) (by omega) (by omega)

theorem eqIntS_ev (l : List Int) (hl : l.length < 4611686018427387904) : Ev (fun k => laws_eqIntS.f k l l) true := by
  refine ev_k l.length fun k hk => ?_
  unfold laws_eqIntS.f
  simp only [if_true]
  exact eqIntS_l0 l hl l.length k 0 (by omega) hk

end Go.Proofs.Ytdolciclfpdcfaa.Pure
end
section
set_option linter.unusedVariables false
set_option linter.unusedSimpArgs false
namespace Go.Proofs.Ytdolciclfpdcfaa.Pure
open Go.RowKit Go.Proofs.Ytdolciclfpdcfaa.P Go.Proofs.YtdolciclfpdcfaaW.PrintWords Go.Proofs.YtdolciclfpdcfaaW.PrintLast Go.Proofs.YtdolciclfpdcfaaW.PrintMore Go.Proofs.Ytdolciclfpdcfaa.Base Go.Proofs.Ytdolciclfpdcfaa.Loops

/-- The marks m, m + 1, .. -/
def mkI (m : Int) (n : Nat) : List Int := (List.range n).map fun i : Nat => m + (i : Int)

theorem mkI_length (m : Int) (n : Nat) : (mkI m n).length = n := by simp [mkI]

theorem mkI_drop {m : Int} {n i : Nat} (h : i < n) : (mkI m n).drop i = (m + (i : Int)) :: (mkI m n).drop (i + 1) := by
  rw [List.drop_eq_getElem_cons (by rw [mkI_length]; exact h)]
  simp [mkI]

theorem markIntS_ev (m : Int) (h0 : 0 ≤ m) (l : List Int) (hl : m + l.length < 2305843009213693952) : Ev (fun k => laws_markIntS.f k l m) (m + (l.length : Int), mkI m l.length) := by
  have main : ∀ (d k i : Nat) (x : List Int), i + d = l.length → x.length = l.length → x.take i = (mkI m l.length).take i → d < k → laws_markIntS.l0 k x (m + (i : Int)) (i : Int) = some (m + (l.length : Int), mkI m l.length) := by
    intro d
    induction d with
    | zero =>
      intro k i x hi hx ht hk
      obtain ⟨k, rfl⟩ := succ_of_lt hk
      have e : i = l.length := by omega
      subst e
      have ex : x = mkI m l.length := fill_end (by rw [mkI_length]; exact hx) (by rw [mkI_length]; exact ht)
      simp only [laws_markIntS.l0]
      rw [if_neg (by omega), ex]
    | succ d ih =>
      intro k i x hi hx ht hk
      obtain ⟨k, rfl⟩ := succ_of_lt hk
      simp only [laws_markIntS.l0]
      rw [if_pos (by omega), if_pos (by omega), wrap_succ (by omega), show wrap64 (m + (i : Int) + 1) = m + ((i + 1 : Nat) : Int) by unfold wrap64; omega, Int.toNat_natCast]
      exact ih k (i + 1) _ (by omega) (by simpa using hx) (fill_step (by rw [mkI_length]; exact hx) ht (mkI_drop (by omega))) (by omega)
  refine ev_k l.length fun k hk => ?_
  unfold laws_markIntS.f
  have h := main l.length k 0 l (by omega) rfl (by simp) hk
  rw [show m + ((0 : Nat) : Int) = m by omega] at h
  exact h

theorem heldIntS_ev (n : Nat) (hn : n < 2305843009213693952) : Ev (fun k => laws_heldIntS.f k (mkI 1 n) 1) (1 + (n : Int)) := by
  have main : ∀ (d k i : Nat), i + d = n → d < k → laws_heldIntS.l0 k (mkI 1 n) (1 + (i : Int)) (i : Int) = some (1 + (n : Int)) := by
    intro d
    induction d with
    | zero =>
      intro k i hi hk
      obtain ⟨k, rfl⟩ := succ_of_lt hk
      simp only [laws_heldIntS.l0, mkI_length]
      rw [if_neg (by omega), show (i : Int) = n by omega]
    | succ d ih =>
      intro k i hi hk
      obtain ⟨k, rfl⟩ := succ_of_lt hk
      simp only [laws_heldIntS.l0, mkI_length, rd_drop (mkI_drop (show i < n by omega))]
      rw [if_pos (by omega), if_pos (by omega), wrap_succ (by omega), show wrap64 (1 + (i : Int) + 1) = 1 + ((i + 1 : Nat) : Int) by unfold wrap64; omega]
      simp only [if_true]
      exact ih k (i + 1) (by omega) (by omega)
  refine ev_k n fun k hk => ?_
  unfold laws_heldIntS.f
  have h := main n k 0 (by omega) hk
  rw [show (1 : Int) + ((0 : Nat) : Int) = 1 by omega] at h
  exact h


end Go.Proofs.Ytdolciclfpdcfaa.Pure
end
section
set_option linter.unusedVariables false
set_option linter.unusedSimpArgs false
namespace Go.Proofs.Ytdolciclfpdcfaa.Pure
open Go.RowKit Go.Proofs.Ytdolciclfpdcfaa.P Go.Proofs.YtdolciclfpdcfaaW.PrintWords Go.Proofs.YtdolciclfpdcfaaW.PrintLast Go.Proofs.YtdolciclfpdcfaaW.PrintMore Go.Proofs.Ytdolciclfpdcfaa.Base Go.Proofs.Ytdolciclfpdcfaa.Loops

theorem addDiv_both (a b : List Int) (ha : a.length ≤ 1048576) (hb : b.length ≤ 1048576) : ∃ (r : List Int) (q : Bool), Ev (fun k => impl_AddDivisors.f k a b) (r, q) ∧ Ev (fun k => spec_AddDivisors.f k a b) (r, q) ∧ r.length ≤ 1048576 ∧ True := by
  by_cases h : a.length = b.length
  · refine ⟨plusL a b, true, ?_, ?_, by simp [plusL]; omega, trivial⟩
    · simp only [impl_AddDivisors.f]
      exact ev_ift (by omega) (Ev.bind (impl_plus_ev a b (by omega) h) (Ev.now _))
    · simp only [spec_AddDivisors.f]
      refine ev_ift (by omega) ?_
      have main : ∀ (d i : Nat), i + d = a.length → Ev (fun k => spec_AddDivisors.l0 k b ((List.range i).map fun i : Nat => wrap64 (a.getD i 0 + b.getD i 0)) a (a.length : Int) (i : Int)) (plusL a b, true) := by
        intro d
        induction d with
        | zero =>
          intro i hi
          obtain rfl : i = a.length := by omega
          refine ev_succ ?_
          simp only [spec_AddDivisors.l0]
          exact ev_ifn (by omega) (Ev.now _)
        | succ d ih =>
          intro i hi
          have h1 := ih (i + 1) (by omega)
          rw [List.range_succ, List.map_append] at h1
          refine ev_succ ?_
          simp only [spec_AddDivisors.l0, wrap_succ (show i < 4611686018427387904 by omega)]
          exact ev_ift (by omega) (ev_ift (by omega) (ev_ift (by omega) (ev_ift (by omega) (ev_ift (by simp; omega) h1))))
      exact main a.length 0 (by omega)
  · refine ⟨[], false, ?_, ?_, by simp, trivial⟩
    · simp only [impl_AddDivisors.f]
      exact ev_ifn (by omega) (Ev.now _)
    · simp only [spec_AddDivisors.f]
      exact ev_ifn (by omega) (Ev.now _)

end Go.Proofs.Ytdolciclfpdcfaa.Pure
end
section
set_option linter.unusedVariables false
set_option linter.unusedSimpArgs false
namespace Go.Proofs.Ytdolciclfpdcfaa.Pure
open Go.RowKit Go.Proofs.Ytdolciclfpdcfaa.P Go.Proofs.YtdolciclfpdcfaaW.PrintWords Go.Proofs.YtdolciclfpdcfaaW.PrintLast Go.Proofs.YtdolciclfpdcfaaW.PrintMore Go.Proofs.Ytdolciclfpdcfaa.Base Go.Proofs.Ytdolciclfpdcfaa.Loops

theorem FnExactAddDivisors : StatFnExactAddDivisors := by
  intro d0 d1 ⟨_, _⟩ ⟨_, _⟩
  refine Ev.rounds (r := true) ?_
  unfold laws_FnExactAddDivisors.f
  by_cases hd0 : (d0.length : Int) > 1048576
  · repeat (first
      | exact Ev.now _
      | dsimp only
      | with_reducible refine ev_ift (by first | rfl | omega) ?_
      | with_reducible refine ev_ifn (by omega) ?_
      | with_reducible refine ev_ifb ?_
      | with_reducible refine ev_ifnn ?_
      | with_reducible refine ev_iff ?_
      | (refine ev_succ ?_; simp only [if_true, laws_FnExactAddDivisors.j0, laws_FnExactAddDivisors.j1, laws_FnExactAddDivisors.j2, laws_FnExactAddDivisors.j3, laws_FnExactAddDivisors.j4, laws_FnExactAddDivisors.j5, laws_FnExactAddDivisors.j6, laws_FnExactAddDivisors.j7, laws_FnExactAddDivisors.j8, laws_FnExactAddDivisors.j9, laws_FnExactAddDivisors.j10, laws_FnExactAddDivisors.j11, laws_FnExactAddDivisors.j12])
      )
  by_cases hd1 : (d1.length : Int) > 1048576
  · repeat (first
      | exact Ev.now _
      | dsimp only
      | with_reducible refine ev_ift (by first | rfl | omega) ?_
      | with_reducible refine ev_ifn (by omega) ?_
      | with_reducible refine ev_ifb ?_
      | with_reducible refine ev_ifnn ?_
      | with_reducible refine ev_iff ?_
      | (refine ev_succ ?_; simp only [if_true, laws_FnExactAddDivisors.j0, laws_FnExactAddDivisors.j1, laws_FnExactAddDivisors.j2, laws_FnExactAddDivisors.j3, laws_FnExactAddDivisors.j4, laws_FnExactAddDivisors.j5, laws_FnExactAddDivisors.j6, laws_FnExactAddDivisors.j7, laws_FnExactAddDivisors.j8, laws_FnExactAddDivisors.j9, laws_FnExactAddDivisors.j10, laws_FnExactAddDivisors.j11, laws_FnExactAddDivisors.j12])
      )
  have hLd0 : d0.length < 4611686018427387904 := by omega
  have td0 := toIntS_ev d0 (by omega)
  have ed0 := eqIntS_ev d0 hLd0
  have hLd1 : d1.length < 4611686018427387904 := by omega
  have td1 := toIntS_ev d1 (by omega)
  have ed1 := eqIntS_ev d1 hLd1
  obtain ⟨r, q, g1, g2, hr, _⟩ := addDiv_both d0 d1 (by omega) (by omega)
  have er := eqIntS_ev r (by omega)
  have md0 := markIntS_ev (1) (by omega) d0 (by omega)
  have md1 := markIntS_ev (1 + (d0.length : Int)) (by omega) d1 (by omega)
  have mr := markIntS_ev 1 (by omega) r (by omega)
  have he := heldIntS_ev r.length (by omega)
  repeat (first
    | exact Ev.now _
    | dsimp only
    | (with_reducible refine Ev.bind td0 ?_) | (with_reducible refine Ev.bind ed0 ?_) | (with_reducible refine Ev.bind td1 ?_) | (with_reducible refine Ev.bind ed1 ?_) | (with_reducible refine Ev.bind g1 ?_) | (with_reducible refine Ev.bind g2 ?_) | (with_reducible refine Ev.bind er ?_) | (with_reducible refine Ev.bind md0 ?_) | (with_reducible refine Ev.bind md1 ?_) | (with_reducible refine Ev.bind mr ?_) | (with_reducible refine Ev.bind he ?_)
    | with_reducible refine ev_ift (by first | rfl | omega) ?_
    | with_reducible refine ev_ifn (by omega) ?_
    | with_reducible refine ev_ifb ?_
    | with_reducible refine ev_ifnn ?_
    | with_reducible refine ev_iff ?_
    | (refine ev_succ ?_; simp only [if_true, laws_FnExactAddDivisors.j0, laws_FnExactAddDivisors.j1, laws_FnExactAddDivisors.j2, laws_FnExactAddDivisors.j3, laws_FnExactAddDivisors.j4, laws_FnExactAddDivisors.j5, laws_FnExactAddDivisors.j6, laws_FnExactAddDivisors.j7, laws_FnExactAddDivisors.j8, laws_FnExactAddDivisors.j9, laws_FnExactAddDivisors.j10, laws_FnExactAddDivisors.j11, laws_FnExactAddDivisors.j12])
    )

end Go.Proofs.Ytdolciclfpdcfaa.Pure
end
