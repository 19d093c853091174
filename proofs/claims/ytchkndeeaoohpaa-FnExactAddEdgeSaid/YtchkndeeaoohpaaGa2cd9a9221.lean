/- Functions of the program as plain Lean functions and that the machine's calls answer as they do, the words of the print that these use, lemmas and plain proofs of laws. Put together by a program of this work that leaves out what nothing uses; Lean checks it. -/
import Derived.Test.YtchkndeeaoohpaaG6c9ce1069b
import Derived.Test.YtchkndeeaoohpaaG45c7b9954f
import Derived.Test.YtchkndeeaoohpaaG7a6bd9712a
import Derived.Test.YtchkndeeaoohpaaG451e3d1d53
import Derived.Test.YtchkndeeaoohpaaG2bf1afed58
section
set_option linter.unusedVariables false
set_option linter.unusedSimpArgs false
namespace Go.Proofs.Ytchkndeeaoohpaa.Pure
open Go.RowKit Go.Proofs.Ytchkndeeaoohpaa.P Go.Proofs.YtchkndeeaoohpaaW.PrintWords Go.Proofs.YtchkndeeaoohpaaW.PrintLast Go.Proofs.YtchkndeeaoohpaaW.PrintMore Go.Proofs.Ytchkndeeaoohpaa.Base Go.Proofs.Ytchkndeeaoohpaa.Bits Go.Proofs.Ytchkndeeaoohpaa.Loops
theorem lt_ltE (x y : S75) : Go.Proofs.ltOf slices_SortFunc_Edge.cf x y = decide (ltE x y) := slices_SortFunc_Edge.lt_eq x y
theorem sorted_pair (es : List S75) (h : SortedE es) : ∀ (d i : Nat), i + d < es.length → ¬ ltE (es.getD (i + d) z75) (es.getD i z75) := by
  intro d
  induction d with
  | zero =>
    intro i _
    rw [Nat.add_zero]
    unfold ltE
    omega
  | succ d ih =>
    intro i hi
    have h1 := ih i (by omega)
    have h2 : ¬ ltE (es.getD (i + d + 1) z75) (es.getD (i + d) z75) := h (i + d) (by omega)
    rw [show i + (d + 1) = i + d + 1 by omega]
    unfold ltE at *
    omega
theorem insE_perm (e : S75) (es : List S75) : (insE e es).Perm (es ++ [e]) := by
  induction es with
  | nil => exact List.Perm.refl _
  | cons x r ih =>
    simp only [insE]
    split
    · exact (List.perm_append_comm (l₁ := [e]) (l₂ := x :: r))
    · exact List.Perm.cons x ih
theorem getB (l : List S75) (i : Nat) (hi : i < l.length) : l.toArray[i]! = l.getD i z75 := by
  rw [List.getD_eq_getElem?_getD, List.getElem?_eq_getElem hi, getElem!_pos _ i (by simpa using hi)]
  simp
theorem srt_ins (e : S75) (es : List S75) (h : SortedE es) : (slices_SortFunc_Edge.srt (es ++ [e])).toList = insE e es := by
  have hanti : ∀ x y : S75, Go.Proofs.ltOf slices_SortFunc_Edge.cf x y = false → Go.Proofs.ltOf slices_SortFunc_Edge.cf y x = false → x = y := fun x y h1 h2 => by
    rw [lt_ltE] at h1 h2
    simp only [decide_eq_false_iff_not] at h1 h2
    unfold ltE at h1 h2
    cases x; cases y
    simp only at h1 h2 ⊢
    congr 1 <;> omega
  have hs1 := Go.Sort.insertionSort_holds (lt := Go.Proofs.ltOf slices_SortFunc_Edge.cf) slices_SortFunc_Edge.swo (es ++ [e]).toArray 0 (es ++ [e]).length (Nat.zero_le _) (by simp)
  have hsz : (es ++ [e]).toArray.size = (es ++ [e]).length := by simp
  rw [← hsz] at hs1
  have u1 := Go.Sort.sorted_unique_holds (lt := Go.Proofs.ltOf slices_SortFunc_Edge.cf) slices_SortFunc_Edge.swo hanti (es ++ [e]).toArray _ hs1.1 hs1.2
  have hl : (insE e es).length = es.length + 1 := insE_len e es
  have u2 := Go.Sort.sorted_unique_holds (lt := Go.Proofs.ltOf slices_SortFunc_Edge.cf) slices_SortFunc_Edge.swo hanti (es ++ [e]).toArray (insE e es).toArray
    ⟨by simp [hl], fun i hi => by
      have : ¬ i < es.length + 1 := by simp at hi; omega
      rw [getElem!_neg _ i (by simp [hl]; omega), getElem!_neg _ i (by simp; omega)], by
      have p := insE_perm e es
      simpa [hl, List.take_of_length_le] using p⟩
    (fun i j _ hij hj => by
      have hj' : j < es.length + 1 := by simpa using hj
      rw [getB _ j (by omega), getB _ i (by omega), lt_ltE]
      have := sorted_pair (insE e es) (insE_sorted e es h) (j - i) i (by omega)
      rw [show i + (j - i) = j by omega] at this
      exact decide_eq_false this)
  have : slices_SortFunc_Edge.srt (es ++ [e]) = Go.Sort.insertionSort (Go.Proofs.ltOf slices_SortFunc_Edge.cf) (es ++ [e]).toArray 0 (es ++ [e]).toArray.size := by
    unfold slices_SortFunc_Edge.srt
    rw [hsz]
  rw [this, u1, ← u2]
theorem addEdge_both (n : Int) (es : List S75) (a b : Int) (hL : es.length < 4611686018427387904) :
    ∃ (m : Int) (r : List S75) (q : Bool), Ev (fun k => impl_AddEdge.f k n es a b) (m, r, q) ∧ Ev (fun k => spec_AddEdge.f k n es a b) (m, r, q) ∧ r.length ≤ 12 ∧ True := by
  obtain ⟨g, h1, h2, hg⟩ := graphOk_both n es hL
  have off : ∀ q : Bool, q = true → Ev (fun k => impl_AddEdge.j0 k a b q n es) (0, [], false) := fun q hq => ev_succ (by
    simp only [impl_AddEdge.j0]
    exact ev_ift hq (Ev.now _))
  have tt : true = true := rfl
  rcases specAdd_ev n es a b hL with ⟨hG, ha, hb, hab, h12, hs, hG2⟩ | ⟨hno, hs⟩
  · obtain ⟨f1, f2, f3, f4⟩ := edgesB_facts hG.1
    obtain rfl : g = true := hg.2 hG
    have ew : wrap64 (n - 1) = n - 1 := by unfold wrap64; omega
    refine ⟨n, insE ⟨mn a b, mx a b⟩ es, true, ?_, hs, by rw [insE_len]; omega, trivial⟩
    simp only [impl_AddEdge.f, impl_isVertex.f, within_eq, Option.bind_some, ew]
    rw [decide_eq_true (show 0 ≤ a ∧ a ≤ n - 1 by omega), decide_eq_true (show 0 ≤ b ∧ b ≤ n - 1 by omega)]
    have hj : Ev (fun k => impl_AddEdge.j0 k a b ((es.length : Int) == 12) n es) (n, insE ⟨mn a b, mx a b⟩ es, true) := ev_succ (by
      have hc : impl_copyGraph.f n es = some (n, es) := by
        unfold impl_copyGraph.f
        rw [if_pos (by simp; omega)]
        rfl
      have hf : slices_SortFunc_Edge.f (es ++ [⟨mn a b, mx a b⟩]) = some (insE ⟨mn a b, mx a b⟩ es) := by
        unfold slices_SortFunc_Edge.f
        rw [if_pos (by simp; omega), srt_ins _ es hG.2.1]
      simp only [impl_AddEdge.j0, hc, hf, Option.bind_some]
      exact ev_ifn (by simp; omega) (ev_ift (by omega) (Ev.now _)))
    exact Ev.bind (Ev.bind h1 (ev_ift tt (Ev.now _))) (ev_ift tt (Ev.bind (Ev.bind h1 (ev_ift tt (Ev.now _))) (ev_ift tt (ev_ifn hab hj))))
  · refine ⟨0, [], false, ?_, hs, by simp, trivial⟩
    simp only [impl_AddEdge.f, impl_isVertex.f, within_eq, Option.bind_some]
    cases g with
    | false => exact Ev.bind (Ev.bind h1 (ev_iff (Ev.now _))) (ev_iff (off _ rfl))
    | true =>
      have hG := hg.1 rfl
      obtain ⟨f1, f2, f3, f4⟩ := edgesB_facts hG.1
      have ew : wrap64 (n - 1) = n - 1 := by unfold wrap64; omega
      simp only [ew]
      by_cases ha : 0 ≤ a ∧ a ≤ n - 1
      · rw [decide_eq_true ha]
        refine Ev.bind (Ev.bind h1 (ev_ift tt (Ev.now _))) (ev_ift tt ?_)
        by_cases hb : 0 ≤ b ∧ b ≤ n - 1
        · rw [decide_eq_true hb]
          refine Ev.bind (Ev.bind h1 (ev_ift tt (Ev.now _))) (ev_ift tt ?_)
          by_cases hab : a = b
          · exact ev_ift hab (off _ rfl)
          · refine ev_ifn hab (off _ ?_)
            have : es.length = 12 := by
              by_cases h : es.length = 12
              · exact h
              · exact absurd ⟨hG, by omega, by omega, hab, h⟩ hno
            simp [this]
        · rw [decide_eq_false hb]
          exact Ev.bind (Ev.bind h1 (ev_ift tt (Ev.now _))) (ev_iff (off _ rfl))
      · rw [decide_eq_false ha]
        exact Ev.bind (Ev.bind h1 (ev_ift tt (Ev.now _))) (ev_iff (off _ rfl))
end Go.Proofs.Ytchkndeeaoohpaa.Pure
end
section
set_option linter.unusedVariables false
set_option linter.unusedSimpArgs false
namespace Go.Proofs.Ytchkndeeaoohpaa.Pure
open Go.RowKit Go.Proofs.Ytchkndeeaoohpaa.P Go.Proofs.YtchkndeeaoohpaaW.PrintWords Go.Proofs.YtchkndeeaoohpaaW.PrintLast Go.Proofs.YtchkndeeaoohpaaW.PrintMore Go.Proofs.Ytchkndeeaoohpaa.Base Go.Proofs.Ytchkndeeaoohpaa.Loops
def mkE (m : Nat) : List S75 := (List.range m).map fun i : Nat => ⟨2 * (i : Int) + 1, 2 * (i : Int) + 2⟩
theorem mkE_len (m : Nat) : (mkE m).length = m := by simp [mkE]
theorem mkE_drop {m i : Nat} (h : i < m) : (mkE m).drop i = ⟨2 * (i : Int) + 1, 2 * (i : Int) + 2⟩ :: (mkE m).drop (i + 1) := by
  rw [List.drop_eq_getElem_cons (by rw [mkE_len]; exact h)]
  congr 1
  simp [mkE]
theorem markG_ev (n : Int) (l : List S75) (hl : l.length < 2305843009213693952) : Ev (fun k => laws_markGraph.f k n l 1) (2 * (l.length : Int) + 1, mkE l.length) := by
  have main : ∀ (d i : Nat) (x : List S75), i + d = l.length → x.length = l.length → x.take i = (mkE l.length).take i → Ev (fun k => laws_markEdgeS.l0 k x (2 * (i : Int) + 1) (i : Int)) (2 * (l.length : Int) + 1, mkE l.length) := by
    intro d
    induction d with
    | zero =>
      intro i x hi hx ht
      obtain rfl : i = l.length := by omega
      have e : x = mkE l.length := fill_end (by rw [hx, mkE_len]) (by rw [mkE_len]; exact ht)
      refine ev_succ ?_
      simp only [laws_markEdgeS.l0]
      rw [e]
      exact ev_ifn (by rw [mkE_len]; omega) (Ev.now _)
    | succ d ih =>
      intro i x hi hx ht
      have hil : i < x.length := by omega
      have hr : rd_T75 (x.set i (⟨2 * (i : Int) + 1, (rd_T75 x i).f1⟩ : S75)) (i : Int) = ⟨2 * (i : Int) + 1, (rd_T75 x i).f1⟩ := by
        unfold rd_T75
        rw [Int.toNat_natCast, List.getD_eq_getElem?_getD, List.getElem?_set_self hil]
        rfl
      have w1 : wrap64 (2 * (i : Int) + 1 + 1) = 2 * (i : Int) + 2 := by unfold wrap64; omega
      have w2 : wrap64 (2 * (i : Int) + 2 + 1) = 2 * ((i + 1 : Nat) : Int) + 1 := by unfold wrap64; omega
      have h1 := ih (i + 1) (x.set i (⟨2 * (i : Int) + 1, 2 * (i : Int) + 2⟩ : S75)) (by omega) (by simpa using hx) (fill_step (by rw [hx, mkE_len]) ht (mkE_drop (by omega)))
      refine ev_succ ?_
      simp only [laws_markEdgeS.l0, Option.bind_some, Int.toNat_natCast, hr, w1, w2, List.set_set, wrap_succ (show i < 4611686018427387904 by omega)]
      exact ev_ift (by omega) (ev_ift (by omega) h1)
  simp only [laws_markGraph.f, laws_markEdgeS.f]
  exact Ev.bind (main l.length 0 l (by omega) rfl (by simp)) (Ev.now _)
theorem heldG_ev (n : Int) (m : Nat) (hm : m < 2305843009213693952) : Ev (fun k => laws_heldGraph.f k n (mkE m) 1) (2 * (m : Int) + 1) := by
  have main : ∀ (d i : Nat), i + d = m → Ev (fun k => laws_heldEdgeS.l0 k (mkE m) (2 * (i : Int) + 1) (i : Int)) (2 * (m : Int) + 1) := by
    intro d
    induction d with
    | zero =>
      intro i hi
      obtain rfl : i = m := by omega
      refine ev_succ ?_
      simp only [laws_heldEdgeS.l0]
      exact ev_ifn (by rw [mkE_len]; omega) (Ev.now _)
    | succ d ih =>
      intro i hi
      have h1 := ih (i + 1) (by omega)
      have hr := rd_IE (mkE_drop (show i < m by omega))
      have w1 : wrap64 (2 * (i : Int) + 1 + 1) = 2 * (i : Int) + 2 := by unfold wrap64; omega
      have w2 : wrap64 (2 * (i : Int) + 2 + 1) = 2 * ((i + 1 : Nat) : Int) + 1 := by unfold wrap64; omega
      refine ev_succ ?_
      simp only [laws_heldEdgeS.l0, hr, w1, w2, wrap_succ (show i < 4611686018427387904 by omega)]
      exact ev_ift (by rw [mkE_len]; omega) (ev_ift (by omega) (ev_ift (by first | rfl | with_reducible exact True.intro) (ev_ift (by first | rfl | with_reducible exact True.intro) h1)))
  simp only [laws_heldGraph.f, laws_heldEdgeS.f]
  exact Ev.bind (main m 0 (by omega)) (ev_ifn (by omega) (Ev.now _))
end Go.Proofs.Ytchkndeeaoohpaa.Pure
end
section
set_option linter.unusedVariables false
set_option linter.unusedSimpArgs false
namespace Go.Proofs.Ytchkndeeaoohpaa.Pure
open Go.RowKit Go.Proofs.Ytchkndeeaoohpaa.P Go.Proofs.YtchkndeeaoohpaaW.PrintWords Go.Proofs.YtchkndeeaoohpaaW.PrintLast Go.Proofs.YtchkndeeaoohpaaW.PrintMore Go.Proofs.Ytchkndeeaoohpaa.Base Go.Proofs.Ytchkndeeaoohpaa.Bits Go.Proofs.Ytchkndeeaoohpaa.Loops
theorem FnExactAddEdge : StatFnExactAddEdge := by
  intro n l a b ⟨_, hl, _⟩ _ _
  refine Ev.rounds (r := true) ?_
  unfold laws_FnExactAddEdge.f
  have hs := szGraph_eq n l hl 1048576 (by omega) (by omega)
  by_cases h : (l.length : Int) ≤ 1048576
  · have es : Ev (fun _ : Nat => laws_szGraph.f n l 1048576) (1048576 - (l.length : Int)) := ev_const fun _ => by rw [hs, if_pos h]
    have tg := toGraph_ev n l (by omega)
    have hm := map_cv_length l
    have hL : (l.map cvE).length < 4611686018427387904 := by omega
    obtain ⟨m, r, q, g1, g2, hr, _⟩ := addEdge_both n (l.map cvE) a b hL
    have eg := eqGraph_ev n (l.map cvE) hL
    have er := eqGraph_ev m r (by omega)
    have my := markG_ev n (l.map cvE) (by omega)
    have mr := markG_ev m r (by omega)
    have he := heldG_ev m r.length (by omega)
    have hqq : (q != q) = false := bne_self_eq_false q
    repeat (first
      | exact Ev.now _
      | dsimp only
      | rw [hqq]
      | (with_reducible refine Ev.bind es ?_) | (with_reducible refine Ev.bind tg ?_) | (with_reducible refine Ev.bind g1 ?_) | (with_reducible refine Ev.bind g2 ?_) | (with_reducible refine Ev.bind eg ?_) | (with_reducible refine Ev.bind er ?_) | (with_reducible refine Ev.bind my ?_) | (with_reducible refine Ev.bind mr ?_) | (with_reducible refine Ev.bind he ?_)
      | with_reducible refine ev_ift (by first | rfl | with_reducible exact True.intro | omega) ?_
      | with_reducible refine ev_ifn (by omega) ?_
      | with_reducible refine ev_ifb ?_
      | with_reducible refine ev_ifnn ?_
      | with_reducible refine ev_iff ?_
      | (refine ev_succ ?_; simp only [if_true, laws_FnExactAddEdge.j0, laws_FnExactAddEdge.j1, laws_FnExactAddEdge.j2, laws_FnExactAddEdge.j3, laws_FnExactAddEdge.j4, laws_FnExactAddEdge.j5, laws_FnExactAddEdge.j6, laws_FnExactAddEdge.j7, laws_FnExactAddEdge.j8, laws_FnExactAddEdge.j9, laws_FnExactAddEdge.j10])
      )
  · have es : Ev (fun _ : Nat => laws_szGraph.f n l 1048576) (-1) := ev_const fun _ => by rw [hs, if_neg h]
    repeat (first
      | exact Ev.now _
      | dsimp only
      | (with_reducible refine Ev.bind es ?_)
      | with_reducible refine ev_ift (by first | rfl | omega) ?_
      | with_reducible refine ev_ifn (by omega) ?_
      )
end Go.Proofs.Ytchkndeeaoohpaa.Pure
end
