/- The plain statement of the law FnExactIsLegalSet, lemmas on the functions that it reaches, and its plain proof. -/
import Derived.Test.YtfpcgccnhpfcnaaG7f1e9573d6
import Derived.Test.YtfpcgccnhpfcnaaGbf62bd544f
import Derived.Test.YtfpcgccnhpfcnaaBase
import Derived.Test.YtfpcgccnhpfcnaaLoops
import Derived.Test.YtfpcgccnhpfcnaaG0361447070
import Derived.Test.YtfpcgccnhpfcnaaBits
import Derived.Test.YtfpcgccnhpfcnaaG55bbc5b30a
import Derived.Test.YtfpcgccnhpfcnaaG21e520748a
import Derived.Test.YtfpcgccnhpfcnaaG50f6fef1f0
import Derived.Test.YtfpcgccnhpfcnaaGacf4011ac1
import Derived.Test.YtfpcgccnhpfcnaaGacab11c425
import Derived.Test.YtfpcgccnhpfcnaaG738cf0ac4a
section
namespace Go.Proofs.Ytfpcgccnhpfcnaa.Pure
open Go.RowKit Go.Proofs.Ytfpcgccnhpfcnaa.P Go.Proofs.YtfpcgccnhpfcnaaW.PrintWords Go.Proofs.YtfpcgccnhpfcnaaW.PrintLast Go.Proofs.YtfpcgccnhpfcnaaW.PrintMore
def StatFnExactIsLegalSet : Prop := ∀ (a0_0 : Int) (l0_1 : List (S86)) (l1 : List (Int)) (l2 : List (Int)), ((Lit.int .i64 a0_0).wf = true ∧ (l0_1.length ≤ maxLen ∧ ∀ x4 ∈ l0_1, (Lit.int .i64 x4.f0).wf = true ∧ (Lit.int .i64 x4.f1).wf = true)) → (l1.length ≤ maxLen ∧ ∀ x2 ∈ l1, (Lit.int .i64 x2).wf = true) → (l2.length ≤ maxLen ∧ ∀ x2 ∈ l2, (Lit.int .i64 x2).wf = true) → ∃ k, laws_FnExactIsLegalSet.f k a0_0 l0_1 l1 l2 = some true
end Go.Proofs.Ytfpcgccnhpfcnaa.Pure
end
section
set_option linter.unusedVariables false
set_option linter.unusedSimpArgs false
namespace Go.Proofs.Ytfpcgccnhpfcnaa.Pure
open Go.RowKit Go.Proofs.Ytfpcgccnhpfcnaa.P Go.Proofs.YtfpcgccnhpfcnaaW.PrintWords Go.Proofs.YtfpcgccnhpfcnaaW.PrintLast Go.Proofs.YtfpcgccnhpfcnaaW.PrintMore Go.Proofs.Ytfpcgccnhpfcnaa.Base Go.Proofs.Ytfpcgccnhpfcnaa.Loops

def cvE (e : S86) : S68 := ⟨e.f0, e.f1⟩

theorem rd_IE {l : List S68} {i : Nat} {a : S68} {r : List S68} (h : l.drop i = a :: r) : rd_T68 l (i : Int) = a := by
  unfold rd_T68
  rw [Int.toNat_natCast]
  exact get_drop h _

theorem rd_LE {l : List S86} {i : Nat} {a : S86} {r : List S86} (h : l.drop i = a :: r) : rd_T86 l (i : Int) = a := by
  unfold rd_T86
  rw [Int.toNat_natCast]
  exact get_drop h _

theorem szGraph_eq (a : Int) (l : List S86) (hl : l.length ≤ maxLen) (n : Int) (h0 : 0 ≤ n) (h1 : n ≤ 1048576) : laws_szGraph.f a l n = some (if (l.length : Int) ≤ n then n - l.length else -1) := by
  unfold maxLen at hl
  unfold laws_szGraph.f laws_szEdgeS.f
  have e : wrap64 (n - (l.length : Int)) = n - l.length := by unfold wrap64; omega
  rw [e]
  by_cases h : (l.length : Int) ≤ n
  · rw [if_neg (by omega), if_pos h]
    simp only [Option.bind_some]
    rw [if_neg (by omega)]
  · rw [if_pos (by omega), if_neg h]
    rfl

theorem toEdgeS_l0 (l : List S86) (hl : l.length < 4611686018427387904) : ∀ (d k i : Nat) (x : List S68), i + d = l.length → x.length = l.length → x.take i = (l.map cvE).take i → d < k → laws_toEdgeS.l0 k l x (i : Int) = some (l.map cvE) := by
  intro d
  induction d with
  | zero =>
    intro k i x hi hx ht hk
    obtain ⟨k, rfl⟩ := succ_of_lt hk
    simp only [laws_toEdgeS.l0]
    rw [if_neg (by omega), fill_end (x := x) (y := l.map cvE) (by simpa using hx) (by rw [List.length_map, show l.length = i by omega]; exact ht)]
  | succ d ih =>
    intro k i x hi hx ht hk
    obtain ⟨k, rfl⟩ := succ_of_lt hk
    have hlt : i < l.length := by omega
    have hd := List.drop_eq_getElem_cons hlt
    simp only [laws_toEdgeS.l0, laws_toEdge.f, Option.bind_some]
    rw [if_pos (by omega), if_pos (by omega), if_pos (by omega), wrap_succ (by omega), rd_LE hd, Int.toNat_natCast]
    refine ih k (i + 1) _ (by omega) (by simpa using hx) ?_ (by omega)
    refine fill_step (rest := (l.map cvE).drop (i + 1)) (by simpa using hx) ht ?_
    rw [List.drop_eq_getElem_cons (by simpa using hlt)]
    simp [cvE]

theorem toGraph_ev (a : Int) (l : List S86) (hl : l.length ≤ 1048576) : Ev (fun k => laws_toGraph.f k a l) (a, l.map cvE) := by
  refine ev_k l.length fun k hk => ?_
  unfold laws_toGraph.f laws_toEdgeS.f
  rw [if_pos (by omega), if_pos (by omega), show (0 : Int) = ((0 : Nat) : Int) from rfl, toEdgeS_l0 l (by omega) l.length k 0 _ (by omega) (by simp) (by simp) hk]
  rfl

theorem eqEdgeS_ev (l : List S68) (hl : l.length < 4611686018427387904) : Ev (fun k => laws_eqEdgeS.f k l l) true := by
  simp only [laws_eqEdgeS.f, if_true]
  refine ev_list0 l (fun k (_ : Unit) i => laws_eqEdgeS.l0 k l l i) (fun _ _ => true) (fun _ _ => True) (fun s _ => ev1 fun k => ?_) (fun s a rest i hlt hd _ => Or.inr ⟨(), trivial, rfl, 0, fun k _ => ?_⟩) () trivial
  · simp only [laws_eqEdgeS.l0]
    rw [if_neg (by omega)]
  · simp only [laws_eqEdgeS.l0, laws_eqEdge.f, if_true, Option.bind_some]
    rw [if_pos (by omega), if_pos (by omega), if_pos (by omega), wrap_succ (by omega)]

theorem eqGraph_ev (a : Int) (l : List S68) (hl : l.length < 4611686018427387904) : Ev (fun k => laws_eqGraph.f k a l a l) true := by
  simp only [laws_eqGraph.f, if_true]
  refine Ev.bind (eqEdgeS_ev l hl) ?_
  simp only [if_true]
  exact Ev.now _

theorem map_cv_length (l : List S86) : (l.map cvE).length = l.length := List.length_map ..

end Go.Proofs.Ytfpcgccnhpfcnaa.Pure
end
section
set_option linter.unusedVariables false
set_option linter.unusedSimpArgs false
namespace Go.Proofs.Ytfpcgccnhpfcnaa.Pure
open Go.RowKit Go.Proofs.Ytfpcgccnhpfcnaa.P Go.Proofs.YtfpcgccnhpfcnaaW.PrintWords Go.Proofs.YtfpcgccnhpfcnaaW.PrintLast Go.Proofs.YtfpcgccnhpfcnaaW.PrintMore Go.Proofs.Ytfpcgccnhpfcnaa.Base Go.Proofs.Ytfpcgccnhpfcnaa.Loops

/-- What EdgesOk tells. -/
def edgesB (n : Int) (es : List S68) : Bool := decide (1 ≤ n) && decide (n ≤ 6) && decide (es.length ≤ 12) && es.all fun e => decide (0 ≤ e.f0) && decide (e.f0 < e.f1) && decide (e.f1 < n)

theorem impl_edgesOk_ev (n : Int) (es : List S68) (hl : es.length < 4611686018427387904) : Ev (fun k => impl_EdgesOk.f k n es) (edgesB n es) := by
  have hw : impl_within.f n 1 6 = some (decide (1 ≤ n) && decide (n ≤ 6)) := by
    unfold impl_within.f
    by_cases h : n ≥ 1
    · rw [if_pos h]; simp [h]
    · rw [if_neg h]; simp [h]
  simp only [impl_EdgesOk.f, hw, Option.bind_some]
  by_cases hn : 1 ≤ n ∧ n ≤ 6
  · by_cases h12 : es.length ≤ 12
    · have loop : Ev (fun k => impl_EdgesOk.l0 k es (es.length : Int) 0 n es) (es.all fun e => decide (0 ≤ e.f0) && decide (e.f0 < e.f1) && decide (e.f1 < n)) := by
        refine ev_listE es (fun k (_ : Unit) i => impl_EdgesOk.l0 k es (es.length : Int) i n es) (fun _ r => r.all fun e => decide (0 ≤ e.f0) && decide (e.f0 < e.f1) && decide (e.f1 < n)) (fun _ _ => True)
          (fun s _ => ev1 fun k => ?_) (fun s a rest i hlt hd _ => ?_) () trivial
        · simp only [impl_EdgesOk.l0]
          rw [if_neg (by omega)]; rfl
        · have bad : a.f0 < 0 ∨ a.f0 ≥ a.f1 ∨ a.f1 ≥ n → ((a :: rest).all fun e => decide (0 ≤ e.f0) && decide (e.f0 < e.f1) && decide (e.f1 < n)) = false := by
            intro h; simp only [List.all_cons, Bool.and_eq_false_iff, decide_eq_false_iff_not]; omega
          have stop : Ev (fun k => impl_EdgesOk.j2 k es (es.length : Int) (i : Int) true n es) false := ev1 fun k => by simp only [impl_EdgesOk.j2, if_true]
          by_cases h1 : a.f0 < 0
          · refine Or.inl (ev_succ ?_)
            simp only [impl_EdgesOk.l0, rd_IE hd]
            rw [bad (by omega)]
            exact ev_ift (by omega) (ev_ift (by omega) (ev_ift (by omega) (ev_ift h1 stop)))
          by_cases h2 : a.f0 ≥ a.f1
          · refine Or.inl (ev_succ ?_)
            simp only [impl_EdgesOk.l0, rd_IE hd]
            rw [bad (by omega)]
            exact ev_ift (by omega) (ev_ift (by omega) (ev_ift (by omega) (ev_ifn h1 (ev_ift h2 stop))))
          by_cases h3 : a.f1 ≥ n
          · refine Or.inl (ev_succ ?_)
            simp only [impl_EdgesOk.l0, rd_IE hd]
            rw [bad (by omega), decide_eq_true h3]
            exact ev_ift (by omega) (ev_ift (by omega) (ev_ift (by omega) (ev_ifn h1 (ev_ifn h2 stop))))
          refine Or.inr ⟨(), trivial, ?_, fun r hr => ev_succ ?_⟩
          · simp; omega
          · simp only [impl_EdgesOk.l0, rd_IE hd, decide_eq_false h3]
            refine ev_ift (by omega) (ev_ift (by omega) (ev_ift (by omega) (ev_ifn h1 (ev_ifn h2 (ev_succ ?_)))))
            simp only [impl_EdgesOk.j2, Bool.false_eq_true, if_false, wrap_succ (show i < 4611686018427387904 by omega)]
            exact hr
      obtain ⟨K, hK⟩ := loop
      dsimp only at hK
      refine ⟨K + 1, fun k hk => ?_⟩
      obtain ⟨m, rfl⟩ : ∃ m, k = m + 1 := ⟨k - 1, by omega⟩
      have := hK m (by omega)
      simp only [hn.1, hn.2, decide_true, Bool.and_self, if_true, impl_EdgesOk.j0]
      rw [if_neg (by simp; omega), this]
      simp [edgesB, hn, h12]
    · refine ev1 fun k => ?_
      simp only [hn.1, hn.2, decide_true, Bool.and_self, if_true, impl_EdgesOk.j0]
      rw [if_pos (by simp; omega)]
      simp [edgesB, h12]
  · refine ev1 fun k => ?_
    rw [if_neg (by simp; omega)]
    simp only [impl_EdgesOk.j0, if_true]
    simp [edgesB]
    intro a b
    exact absurd ⟨a, b⟩ hn

theorem spec_edgesOk_ev (n : Int) (es : List S68) (hl : es.length < 4611686018427387904) : Ev (fun k => spec_EdgesOk.f k n es) (edgesB n es) := by
  have hw : ∀ a b c : Int, spec_l01In.f a b c = some (decide (b ≤ a) && decide (a ≤ c)) := by
    intro a b c
    unfold spec_l01In.f
    by_cases h : a ≥ b
    · rw [if_pos h]; simp [h]
    · rw [if_neg h]; simp [h]
  simp only [spec_EdgesOk.f, hw, Option.bind_some]
  by_cases hn : 1 ≤ n ∧ n ≤ 6
  · have hn1 : wrap64 (n - 1) = n - 1 := by unfold wrap64; omega
    by_cases h12 : es.length ≤ 12
    · have loop : Ev (fun k => spec_EdgesOk.l0 k es (es.length : Int) 0 n es) (es.all fun e => decide (0 ≤ e.f0) && decide (e.f0 < e.f1) && decide (e.f1 < n)) := by
        refine ev_list0 es (fun k (_ : Unit) i => spec_EdgesOk.l0 k es (es.length : Int) i n es) (fun _ r => r.all fun e => decide (0 ≤ e.f0) && decide (e.f0 < e.f1) && decide (e.f1 < n)) (fun _ _ => True)
          (fun s _ => ev1 fun k => ?_) (fun s a rest i hlt hd _ => ?_) () trivial
        · simp only [spec_EdgesOk.l0]
          rw [if_neg (by omega)]; rfl
        · by_cases h1 : 0 ≤ a.f0 ∧ a.f0 ≤ n - 1
          · have e1 : wrap64 (a.f0 + 1) = a.f0 + 1 := by unfold wrap64; omega
            by_cases h2 : a.f0 + 1 ≤ a.f1 ∧ a.f1 ≤ n - 1
            · refine Or.inr ⟨(), trivial, ?_, 0, fun k _ => ?_⟩
              · simp; omega
              · simp only [spec_EdgesOk.l0, rd_IE hd, hw, hn1, e1, Option.bind_some]
                rw [if_pos (by omega), if_pos (by omega), if_pos (by omega), if_pos (by simp; omega), if_pos (by simp; omega), wrap_succ (by omega)]
            · refine Or.inl (ev1 fun k => ?_)
              simp only [spec_EdgesOk.l0, rd_IE hd, hw, hn1, e1, Option.bind_some]
              rw [if_pos (by omega), if_pos (by omega), if_pos (by omega), if_pos (by simp; omega), if_neg (by simp; omega)]
              simp; omega
          · refine Or.inl (ev1 fun k => ?_)
            simp only [spec_EdgesOk.l0, rd_IE hd, hw, hn1, Option.bind_some]
            rw [if_pos (by omega), if_pos (by omega), if_pos (by omega), if_neg (by simp; omega)]
            simp; omega
      obtain ⟨K, hK⟩ := loop
      dsimp only at hK
      refine ⟨K + 1, fun k hk => ?_⟩
      obtain ⟨m, rfl⟩ : ∃ m, k = m + 1 := ⟨k - 1, by omega⟩
      have := hK m (by omega)
      simp only [hn.1, hn.2, decide_true, Bool.and_self, if_true, spec_EdgesOk.j0]
      rw [if_neg (by simp; omega), this]
      simp [edgesB, hn, h12]
    · refine ev1 fun k => ?_
      simp only [hn.1, hn.2, decide_true, Bool.and_self, if_true, spec_EdgesOk.j0]
      rw [if_pos (by simp; omega)]
      simp [edgesB, h12]
  · refine ev1 fun k => ?_
    rw [if_neg (by simp; omega)]
    simp only [spec_EdgesOk.j0, if_true]
    simp [edgesB]
    intro a b
    exact absurd ⟨a, b⟩ hn

end Go.Proofs.Ytfpcgccnhpfcnaa.Pure
end
section
set_option linter.unusedVariables false
set_option linter.unusedSimpArgs false
namespace Go.Proofs.Ytfpcgccnhpfcnaa.Pure
open Go.RowKit Go.Proofs.Ytfpcgccnhpfcnaa.P Go.Proofs.YtfpcgccnhpfcnaaW.PrintWords Go.Proofs.YtfpcgccnhpfcnaaW.PrintLast Go.Proofs.YtfpcgccnhpfcnaaW.PrintMore Go.Proofs.Ytfpcgccnhpfcnaa.Base Go.Proofs.Ytfpcgccnhpfcnaa.Bits Go.Proofs.Ytfpcgccnhpfcnaa.Loops

/-- A list of edges in order. -/
def SortedE (es : List S68) : Prop := ∀ i, i + 1 < es.length → ¬ ((es.getD (i + 1) z68).f0 < (es.getD i z68).f0 ∨ ((es.getD (i + 1) z68).f0 = (es.getD i z68).f0 ∧ (es.getD (i + 1) z68).f1 < (es.getD i z68).f1))

def ConnE (n : Int) (es : List S68) : Prop := ∀ P : Int → Prop, P 0 → (∀ e ∈ es, P e.f0 ↔ P e.f1) → ∀ v, 0 ≤ v → v < n → P v

/-- A valid graph. -/
def GraphP (n : Int) (es : List S68) : Prop := edgesB n es = true ∧ SortedE es ∧ ConnE n es

theorem rdE_nat (es : List S68) (i : Nat) : rd_T68 es (i : Int) = es.getD i z68 := by unfold rd_T68; rw [Int.toNat_natCast]

theorem edgesB_facts {n : Int} {es : List S68} (h : edgesB n es = true) : 1 ≤ n ∧ n ≤ 6 ∧ es.length ≤ 12 ∧ ∀ e ∈ es, 0 ≤ e.f0 ∧ e.f0 < e.f1 ∧ e.f1 < n := by
  simp only [edgesB, Bool.and_eq_true, decide_eq_true_eq, List.all_eq_true] at h
  exact ⟨h.1.1.1, h.1.1.2, h.1.2, fun e he => ⟨(h.2 e he).1.1, (h.2 e he).1.2, (h.2 e he).2⟩⟩

theorem compare_eq (a0 a1 b0 b1 : Int) : ∃ c, impl_compareEdges.f a0 a1 b0 b1 = some c ∧ (c < 0 ↔ a0 < b0 ∨ (a0 = b0 ∧ a1 < b1)) := by
  have hc : ∀ x y : Int, cmp_Compare_int.f x y = some (if x < y then -1 else if x > y then 1 else 0) := by
    intro x y
    unfold cmp_Compare_int.f cmp_isNaN_int.f
    simp only [Option.bind_some, bne_self_eq_false, Bool.false_eq_true, if_false]
    by_cases h1 : x < y
    · rw [if_pos h1, if_pos h1]
    · rw [if_neg h1, if_neg h1]
      by_cases h2 : x > y
      · rw [if_pos h2, if_pos h2]
      · rw [if_neg h2, if_neg h2]
  unfold impl_compareEdges.f
  simp only [hc, Option.bind_some]
  by_cases h1 : a0 < b0
  · rw [if_pos h1, if_neg (by decide)]
    exact ⟨_, rfl, by omega⟩
  · by_cases h2 : a0 > b0
    · rw [if_neg h1, if_pos h2, if_neg (by decide)]
      exact ⟨_, rfl, by omega⟩
    · rw [if_neg h1, if_neg h2, if_pos rfl]
      refine ⟨_, rfl, ?_⟩
      by_cases h3 : a1 < b1
      · rw [if_pos h3]; omega
      · rw [if_neg h3]
        split <;> omega

theorem impl_sorted_ev (es : List S68) (hl : es.length < 4611686018427387904) : ∃ b : Bool, Ev (fun k => slices_IsSortedFunc_Edge.f k es) b ∧ (b = true ↔ SortedE es) := by
  have main : ∀ i : Nat, i < es.length → ∃ b : Bool, Ev (fun k => slices_IsSortedFunc_Edge.l0 k es (i : Int)) b ∧ (b = true ↔ ∀ j, j < i → ¬ ((es.getD (j + 1) z68).f0 < (es.getD j z68).f0 ∨ ((es.getD (j + 1) z68).f0 = (es.getD j z68).f0 ∧ (es.getD (j + 1) z68).f1 < (es.getD j z68).f1))) := by
    intro i
    induction i with
    | zero =>
      intro _
      refine ⟨true, ev1 fun k => ?_, by simp⟩
      simp only [slices_IsSortedFunc_Edge.l0]
      rw [if_neg (by omega)]
    | succ i ih =>
      intro hi
      obtain ⟨b, ⟨K, hb⟩, hiff⟩ := ih (by omega)
      have ew : wrap64 (((i + 1 : Nat) : Int) - 1) = (i : Int) := by unfold wrap64; omega
      obtain ⟨c, hc, hneg⟩ := compare_eq (es.getD (i + 1) z68).f0 (es.getD (i + 1) z68).f1 (es.getD i z68).f0 (es.getD i z68).f1
      by_cases h : c < 0
      · refine ⟨false, ev1 fun k => ?_, ?_⟩
        · simp only [slices_IsSortedFunc_Edge.l0, ew, rdE_nat, hc, Option.bind_some]
          rw [if_pos (by omega), if_pos (by omega), if_pos (by omega), if_pos (by omega), if_pos (by omega), if_pos h]
        · simp only [Bool.false_eq_true, false_iff]
          intro hall
          exact hall i (by omega) (hneg.1 h)
      · refine ⟨b, ⟨K + 1, fun k hk => ?_⟩, ?_⟩
        · obtain ⟨m, rfl⟩ : ∃ m, k = m + 1 := ⟨k - 1, by omega⟩
          have h2 := hb m (by omega)
          dsimp only at h2 ⊢
          simp only [slices_IsSortedFunc_Edge.l0, ew, rdE_nat, hc, Option.bind_some]
          rw [if_pos (by omega), if_pos (by omega), if_pos (by omega), if_pos (by omega), if_pos (by omega), if_neg h, h2]
        · rw [hiff]
          constructor
          · intro hall j hj
            by_cases e : j = i
            · subst e; exact fun hh => h (hneg.2 hh)
            · exact hall j (by omega)
          · exact fun hall j hj => hall j (by omega)
  simp only [slices_IsSortedFunc_Edge.f]
  by_cases h0 : es.length = 0
  · refine ⟨true, ev1 fun k => ?_, ?_⟩
    · simp only [slices_IsSortedFunc_Edge.l0]
      rw [if_neg (by unfold wrap64; omega)]
    · simp only [true_iff]
      intro i hi
      omega
  · obtain ⟨b, hb, hiff⟩ := main (es.length - 1) (by omega)
    have ew : wrap64 ((es.length : Int) - 1) = ((es.length - 1 : Nat) : Int) := by unfold wrap64; omega
    rw [ew]
    refine ⟨b, hb, ?_⟩
    rw [hiff]
    exact ⟨fun h i hi => h i (by omega), fun h i hi => h i (by omega)⟩

def toN (e : S68) : Nat × Nat := (e.f0.toNat, e.f1.toNat)

theorem conn_l1 (n : Nat) (es : List S68) (hn : n ≤ 6) (he : ∀ e ∈ es, 0 ≤ e.f0 ∧ e.f0 < e.f1 ∧ e.f1 < n) (x8 x9 : Int) (r : Bool) (hl : es.length < 4611686018427387904) :
    ∀ (rest : List S68) (i : Nat) (M : Nat), i ≤ es.length → es.drop i = rest → M < 2 ^ n → Ev (fun k => impl_connected.l0 k n es ((rnd (rest.map toN) M : Nat) : Int) x8 (wrap64 (x9 + 1))) r →
      Ev (fun k => impl_connected.l1 k n es (M : Int) x8 x9 es (es.length : Int) (i : Int)) r := by
  intro rest
  induction rest with
  | nil =>
    intro i M hi hd hM h
    have := drop_nil hd
    obtain ⟨K, hK⟩ := h
    refine ⟨K + 1, fun k hk => ?_⟩
    obtain ⟨m, rfl⟩ : ∃ m, k = m + 1 := ⟨k - 1, by omega⟩
    simp only [impl_connected.l1]
    rw [if_neg (by omega)]
    exact hK m (by omega)
  | cons e rest ih =>
    intro i M hi hd hM h
    have hlt := drop_lt hd
    have hmem : e ∈ es := by
      have : e ∈ es.drop i := by rw [hd]; simp
      exact List.mem_of_mem_drop this
    obtain ⟨h0, h1, h2⟩ := he e hmem
    obtain ⟨a, ha⟩ : ∃ a : Nat, e.f0 = a := ⟨e.f0.toNat, by omega⟩
    obtain ⟨b, hb⟩ : ∃ b : Nat, e.f1 = b := ⟨e.f1.toNat, by omega⟩
    have hte : toN e = (a, b) := by simp [toN, ha, hb]
    have hM62 : M < 2 ^ 62 := Nat.lt_of_lt_of_le hM (Nat.pow_le_pow_right (by decide) (by omega))
    have hlt' := upd_lt M (a, b) n hM (by show a < n; omega) (by show b < n; omega)
    rw [List.map_cons, hte] at h
    obtain ⟨K, hK⟩ := ih (i + 1) (upd M (a, b)) (by omega) (drop_next hd) hlt' h
    refine ⟨K + 1, fun k hk => ?_⟩
    obtain ⟨m, rfl⟩ : ∃ m, k = m + 1 := ⟨k - 1, by omega⟩
    have h3 := hK m (by omega)
    dsimp only at h3 ⊢
    simp only [impl_connected.l1, rd_IE hd, ha, hb, bit_of M a hM62 (by omega), bit_of M b hM62 (by omega), or_two M a b hM62 (by omega) (by omega)]
    rw [if_pos (by omega), if_pos (by omega), if_pos (by omega), if_pos (by omega), wrap_succ (by omega)]
    unfold upd at h3
    by_cases ta : M.testBit a = true
    · rw [if_pos (by simp [ta]), if_pos (by omega)]
      rw [if_pos (by simp [ta])] at h3
      exact h3
    · by_cases tb : M.testBit b = true
      · rw [if_neg (by simp [ta]), if_pos (by omega), if_pos (by simp [tb])]
        rw [if_pos (by simp [tb])] at h3
        exact h3
      · rw [if_neg (by simp [ta]), if_pos (by omega), if_neg (by simp [tb])]
        rw [if_neg (by simp [ta, tb])] at h3
        exact h3

theorem toN_lt {n : Nat} {es : List S68} (he : ∀ e ∈ es, 0 ≤ e.f0 ∧ e.f0 < e.f1 ∧ e.f1 < n) : ∀ x ∈ es.map toN, x.1 < n ∧ x.2 < n := by
  intro x hx
  obtain ⟨e, hm, rfl⟩ := List.mem_map.1 hx
  have := he e hm
  simp only [toN]
  omega

theorem impl_connected_ev (n : Nat) (es : List S68) (hn0 : 0 < n) (hn : n ≤ 6) (he : ∀ e ∈ es, 0 ≤ e.f0 ∧ e.f0 < e.f1 ∧ e.f1 < n) (hl : es.length < 4611686018427387904) :
    Ev (fun k => impl_connected.f k n es) (decide (iter (es.map toN) n 1 = 2 ^ n - 1)) := by
  have main : ∀ (d : Nat) (x9 M : Nat), x9 + d = n → M < 2 ^ n → Ev (fun k => impl_connected.l0 k n es (M : Int) n (x9 : Int)) (decide (iter (es.map toN) d M = 2 ^ n - 1)) := by
    intro d
    induction d with
    | zero =>
      intro x9 M hx hM
      refine ev1 fun k => ?_
      simp only [impl_connected.l0, iter]
      rw [if_neg (by omega), if_pos (by omega), shl_nat n (by omega)]
      have : wrap64 (((2 ^ n : Nat) : Int) - 1) = ((2 ^ n - 1 : Nat) : Int) := by
        have h1 : 2 ^ n ≤ 2 ^ 6 := Nat.pow_le_pow_right (by decide) hn
        have h2 : 0 < 2 ^ n := Nat.pow_pos (by decide)
        unfold wrap64
        omega
      rw [this]
      have e : ((M : Int) == ((2 ^ n - 1 : Nat) : Int)) = decide (M = 2 ^ n - 1) := by
        generalize 2 ^ n - 1 = q
        rw [Bool.eq_iff_iff, beq_iff_eq, decide_eq_true_eq]
        omega
      rw [e]
      rfl
    | succ d ih =>
      intro x9 M hx hM
      have h1 := ih (x9 + 1) (rnd (es.map toN) M) (by omega) (rnd_lt _ n M hM (toN_lt he))
      have h2 := conn_l1 n es hn he n x9 _ hl es 0 M (by omega) rfl hM (by rw [wrap_succ (by omega)]; exact h1)
      obtain ⟨K, hK⟩ := h2
      refine ⟨K + 1, fun k hk => ?_⟩
      obtain ⟨m, rfl⟩ : ∃ m, k = m + 1 := ⟨k - 1, by omega⟩
      have h3 := hK m (by omega)
      dsimp only [iter] at h3 ⊢
      simp only [impl_connected.l0]
      rw [if_pos (by omega)]
      exact h3
  exact main n 0 1 (by omega) (Nat.one_lt_two_pow (by omega))

theorem full_iff (n : Nat) (es : List S68) (hn0 : 0 < n) (he : ∀ e ∈ es, 0 ≤ e.f0 ∧ e.f0 < e.f1 ∧ e.f1 < n) : iter (es.map toN) n 1 = 2 ^ n - 1 ↔ ConnE n es := by
  rw [iter_full (es.map toN) n hn0 (toN_lt he)]
  constructor
  · intro h P h0 hP v hv0 hv
    obtain ⟨u, rfl⟩ : ∃ u : Nat, v = u := ⟨v.toNat, by omega⟩
    refine h (fun u => P u) h0 (fun x hx => ?_) u (by omega)
    obtain ⟨e, hm, rfl⟩ := List.mem_map.1 hx
    have hb := he e hm
    simp only [toN]
    rw [show ((e.f0.toNat : Nat) : Int) = e.f0 by omega, show ((e.f1.toNat : Nat) : Int) = e.f1 by omega]
    exact hP e hm
  · intro h P h0 hP v hv
    have := h (fun u => P u.toNat) h0 (fun e hm => hP (toN e) (List.mem_map.2 ⟨e, hm, rfl⟩)) v (by omega) (by omega)
    simpa using this

theorem impl_graphOk_iff (n : Int) (es : List S68) (hl : es.length < 4611686018427387904) : ∃ b : Bool, Ev (fun k => impl_GraphOk.f k n es) b ∧ (b = true ↔ GraphP n es) := by
  have h1 := impl_edgesOk_ev n es hl
  simp only [impl_GraphOk.f]
  by_cases hb : edgesB n es = true
  · obtain ⟨f1, f2, f3, f4⟩ := edgesB_facts hb
    obtain ⟨m, rfl⟩ : ∃ m : Nat, n = m := ⟨n.toNat, by omega⟩
    obtain ⟨b, h2, hs⟩ := impl_sorted_ev es hl
    rw [hb] at h1
    cases b with
    | false =>
      refine ⟨false, Ev.bind h1 ?_, ?_⟩
      · simp only [if_true]
        refine Ev.bind h2 ?_
        simp only [Bool.false_eq_true, if_false]
        exact Ev.now _
      · simp only [Bool.false_eq_true, false_iff] at hs ⊢
        exact fun h => hs h.2.1
    | true =>
      refine ⟨decide (iter (es.map toN) m 1 = 2 ^ m - 1), Ev.bind h1 ?_, ?_⟩
      · simp only [if_true]
        refine Ev.bind h2 ?_
        simp only [if_true]
        refine Ev.bind (impl_connected_ev m es (by omega) (by omega) f4 hl) ?_
        exact Ev.now _
      · rw [decide_eq_true_eq, full_iff m es (by omega) f4]
        simp only [true_iff] at hs
        exact ⟨fun h => ⟨hb, hs, h⟩, fun h => h.2.2⟩
  · refine ⟨false, Ev.bind h1 ?_, ?_⟩
    · simp only [hb]
      exact Ev.now _
    · simp only [Bool.false_eq_true, false_iff]
      exact fun h => hb h.1

end Go.Proofs.Ytfpcgccnhpfcnaa.Pure
end
section
set_option linter.unusedVariables false
set_option linter.unusedSimpArgs false
namespace Go.Proofs.Ytfpcgccnhpfcnaa.Pure
open Go.RowKit Go.Proofs.Ytfpcgccnhpfcnaa.P Go.Proofs.YtfpcgccnhpfcnaaW.PrintWords Go.Proofs.YtfpcgccnhpfcnaaW.PrintLast Go.Proofs.YtfpcgccnhpfcnaaW.PrintMore Go.Proofs.Ytfpcgccnhpfcnaa.Base Go.Proofs.Ytfpcgccnhpfcnaa.Bits Go.Proofs.Ytfpcgccnhpfcnaa.Loops

theorem has_ev (l : List Int) (v : Int) (hl : l.length < 4611686018427387904) : Ev (fun k => spec_l02Has.f k l v) (decide (v ∈ l)) := by
  simp only [spec_l02Has.f]
  refine ev_list0 l (fun k (_ : Unit) i => spec_l02Has.l0 k v l (l.length : Int) i) (fun _ r => decide (v ∈ r)) (fun _ _ => True) (fun s _ => ev1 fun k => ?_) (fun s a rest i hlt hd _ => ?_) () trivial
  · simp only [spec_l02Has.l0]
    rw [if_neg (by omega)]; simp
  · by_cases h : a = v
    · refine Or.inl (ev1 fun k => ?_)
      simp only [spec_l02Has.l0, rd_drop hd]
      rw [if_pos (by omega), if_pos (by omega), if_pos (by omega), if_pos h]
      simp [h]
    · refine Or.inr ⟨(), trivial, ?_, 0, fun k _ => ?_⟩
      · simp [Ne.symm h]
      · simp only [spec_l02Has.l0, rd_drop hd]
        rw [if_pos (by omega), if_pos (by omega), if_pos (by omega), if_neg h, wrap_succ (by omega)]

/-- What the search keeps: no vertex twice, all of them vertices, none that a closed set could lack. -/
def RInv (n : Nat) (es : List S68) (q : List Int) : Prop :=
  q.Nodup ∧ (∀ v ∈ q, 0 ≤ v ∧ v < n) ∧ (0 : Int) ∈ q ∧ ∀ P : Int → Prop, P 0 → (∀ e ∈ es, P e.f0 ↔ P e.f1) → ∀ v ∈ q, P v

theorem rinv_len {n : Nat} {es : List S68} {q : List Int} (h : RInv n es q) : q.length ≤ n := by
  have := List.Nodup.length_le_of_subset h.1 (l₂ := (List.range n).map fun i : Nat => (i : Int)) (fun v hv => by
    have hb := h.2.1 v hv
    exact List.mem_map.2 ⟨v.toNat, by simp; omega, by omega⟩)
  simpa using this

theorem rinv_add {n : Nat} {es : List S68} {q : List Int} (h : RInv n es q) {u v : Int} {e : S68} (he : e ∈ es) (hb : 0 ≤ e.f0 ∧ e.f0 < e.f1 ∧ e.f1 < n) (hu : u ∈ q) (huv : (u = e.f0 ∧ v = e.f1) ∨ (u = e.f1 ∧ v = e.f0)) (hv : v ∉ q) : RInv n es (q ++ [v]) := by
  refine ⟨?_, fun x hx => ?_, by simp [h.2.2.1], fun P h0 hP x hx => ?_⟩
  · rw [List.nodup_append]
    refine ⟨h.1, by simp, fun a ha b hb' => ?_⟩
    simp at hb'
    subst hb'
    intro e'
    subst e'
    exact hv ha
  · rcases List.mem_append.1 hx with hx | hx
    · exact h.2.1 x hx
    · simp at hx
      omega
  · rcases List.mem_append.1 hx with hx | hx
    · exact h.2.2.2 P h0 hP x hx
    · simp at hx
      subst hx
      have := h.2.2.2 P h0 hP u hu
      rcases huv with ⟨h1, h2⟩ | ⟨h1, h2⟩
      · rw [h2]; exact (hP e he).1 (h1 ▸ this)
      · rw [h2]; exact (hP e he).2 (h1 ▸ this)

theorem rd_get {q : List Int} {i : Nat} (h : i < q.length) : rd q (i : Int) = q[i] := rd_nat q i h

theorem get_mem_append {q : List Int} {i : Nat} (h : i < q.length) (v : Int) : rd (q ++ [v]) (i : Int) = rd q (i : Int) := by
  rw [rd_nat q i h, rd_nat (q ++ [v]) i (by simp; omega), List.getElem_append_left h]

/-- One edge of the inner loop. -/
theorem reach_step (n : Nat) (es : List S68) (q : List Int) (pos i : Nat) (e : S68) (rest : List S68) (hd : es.drop i = e :: rest) (hne : e.f0 ≠ e.f1) (hpos : pos < q.length) (hq : q.length ≤ 6) (hl : es.length < 4611686018427387904) (r : List Int)
    (h : Ev (fun k => spec_l02Reach.l1 k (if e.f0 = rd q pos ∧ e.f1 ∉ q then q ++ [e.f1] else if e.f1 = rd q pos ∧ e.f0 ∉ q then q ++ [e.f0] else q) (pos : Int) es (es.length : Int) ((i + 1 : Nat) : Int) n es) r) :
    Ev (fun k => spec_l02Reach.l1 k q (pos : Int) es (es.length : Int) (i : Int) n es) r := by
  have hlt := drop_lt hd
  have b1 := has_ev q e.f1 (by omega)
  have tail : ∀ q' : List Int, pos < q'.length → q'.length ≤ 7 →
      Ev (fun k => spec_l02Reach.l1 k (if e.f1 = rd q' pos ∧ e.f0 ∉ q' then q' ++ [e.f0] else q') (pos : Int) es (es.length : Int) ((i + 1 : Nat) : Int) n es) r →
      Ev (fun k => spec_l02Reach.j3 k q' (pos : Int) es (es.length : Int) (i : Int) n es e.f0 e.f1) r := by
    intro q' hp' hq' h'
    have b2 := has_ev q' e.f0 (by omega)
    refine ev_succ ?_
    simp only [spec_l02Reach.j3, wrap_succ (show i < 4611686018427387904 by omega)]
    refine ev_ift (by omega) (ev_ift (by omega) ?_)
    by_cases c1 : e.f1 = rd q' pos
    · refine ev_ift c1 (Ev.bind b2 ?_)
      by_cases m0 : e.f0 ∈ q'
      · rw [if_neg (fun hh => hh.2 m0)] at h'
        exact ev_ift (by simp [m0]) h'
      · rw [if_pos ⟨c1, m0⟩] at h'
        exact ev_ifn (by simp [m0]) (ev_ift (by omega) h')
    · rw [if_neg (fun hh => c1 hh.1)] at h'
      exact ev_ifn c1 h'
  refine ev_succ ?_
  simp only [spec_l02Reach.l1, rd_IE hd]
  refine ev_ift (by omega) (ev_ift (by omega) (ev_ift (by omega) (ev_ift (by omega) (ev_ift (by omega) ?_))))
  by_cases c0 : e.f0 = rd q pos
  · have c1 : ¬ e.f1 = rd q pos := fun hh => hne (c0.trans hh.symm)
    refine ev_ift c0 (Ev.bind b1 (ev_succ ?_))
    simp only [spec_l02Reach.j2]
    by_cases m1 : e.f1 ∈ q
    · rw [if_neg (fun hh => hh.2 m1), if_neg (fun hh => c1 hh.1)] at h
      refine ev_ifn (by simp [m1]) (tail q hpos (by omega) ?_)
      rw [if_neg (fun hh => c1 hh.1)]
      exact h
    · rw [if_pos ⟨c0, m1⟩] at h
      refine ev_ift (by simp [m1]) (ev_ift (by omega) (tail (q ++ [e.f1]) (by simp; omega) (by simp; omega) ?_))
      rw [get_mem_append hpos, if_neg (fun hh => c1 hh.1)]
      exact h
  · refine ev_ifn c0 (ev_succ ?_)
    simp only [spec_l02Reach.j2]
    rw [if_neg (fun hh => c0 hh.1)] at h
    exact ev_ifn (by simp) (tail q hpos (by omega) h)

/-- All that lies before place pos has its neighbours in the list. -/
def Done (es : List S68) (q : List Int) (pos : Nat) : Prop := ∀ j, j < pos → ∀ e ∈ es, (e.f0 = rd q j → e.f1 ∈ q) ∧ (e.f1 = rd q j → e.f0 ∈ q)

theorem done_add {es : List S68} {q : List Int} {pos : Nat} (h : Done es q pos) (hp : pos ≤ q.length) (v : Int) : Done es (q ++ [v]) pos := by
  intro j hj e he
  rw [get_mem_append (by omega)]
  have := h j hj e he
  exact ⟨fun hh => List.mem_append_left _ (this.1 hh), fun hh => List.mem_append_left _ (this.2 hh)⟩

theorem reach_inner (n : Nat) (hn : n ≤ 6) (es : List S68) (he : ∀ e ∈ es, 0 ≤ e.f0 ∧ e.f0 < e.f1 ∧ e.f1 < n) (hl : es.length < 4611686018427387904) (pos : Nat)
    (next : ∀ q, RInv n es q → Done es q (pos + 1) → pos < q.length → ∃ r, Ev (fun k => spec_l02Reach.l0 k q ((pos + 1 : Nat) : Int) n es) r ∧ RInv n es r ∧ Done es r r.length) :
    ∀ (rest : List S68) (i : Nat) (q : List Int), i ≤ es.length → es.drop i = rest → RInv n es q → Done es q pos → pos < q.length →
      (∀ e ∈ es.take i, (e.f0 = rd q pos → e.f1 ∈ q) ∧ (e.f1 = rd q pos → e.f0 ∈ q)) →
      ∃ r, Ev (fun k => spec_l02Reach.l1 k q (pos : Int) es (es.length : Int) (i : Int) n es) r ∧ RInv n es r ∧ Done es r r.length := by
  intro rest
  induction rest with
  | nil =>
    intro i q hi hd hinv hdone hpos hpart
    have hge := drop_nil hd
    have hlen := rinv_len hinv
    rw [List.take_of_length_le hge] at hpart
    obtain ⟨r, ⟨K, hK⟩, h1, h2⟩ := next q hinv (fun j hj => by
      by_cases e : j = pos
      · subst e; exact hpart
      · exact hdone j (by omega)) hpos
    refine ⟨r, ⟨K + 1, fun k hk => ?_⟩, h1, h2⟩
    obtain ⟨m, rfl⟩ : ∃ m, k = m + 1 := ⟨k - 1, by omega⟩
    have h3 := hK m (by omega)
    dsimp only at h3 ⊢
    simp only [spec_l02Reach.l1]
    rw [if_neg (by omega), wrap_succ (by omega), h3]
  | cons e rest ih =>
    intro i q hi hd hinv hdone hpos hpart
    have hlt := drop_lt hd
    have hmem : e ∈ es := by
      have : e ∈ es.drop i := by rw [hd]; simp
      exact List.mem_of_mem_drop this
    have hb := he e hmem
    have hlen := rinv_len hinv
    have hx : rd q pos ∈ q := by rw [rd_nat q pos hpos]; exact List.getElem_mem _
    have htake : es.take (i + 1) = es.take i ++ [e] := take_drop hd
    have step := reach_step n es q pos i e rest hd (by omega) hpos (by omega) hl
    by_cases c0 : e.f0 = rd q pos ∧ e.f1 ∉ q
    · obtain ⟨r, hr, h1, h2⟩ := ih (i + 1) (q ++ [e.f1]) (by omega) (drop_next hd) (rinv_add hinv hmem hb hx (Or.inl ⟨c0.1.symm, rfl⟩) c0.2) (done_add hdone (by omega) _) (by simp; omega) (fun x hx' => by
        rw [get_mem_append hpos]
        rw [htake] at hx'
        rcases List.mem_append.1 hx' with hx' | hx'
        · have := hpart x hx'
          exact ⟨fun hh => List.mem_append_left _ (this.1 hh), fun hh => List.mem_append_left _ (this.2 hh)⟩
        · simp at hx'
          subst hx'
          exact ⟨fun _ => by simp, fun hh => absurd (c0.1.trans hh.symm) (by omega)⟩)
      refine ⟨r, step r ?_, h1, h2⟩
      simp only [if_pos c0]
      exact hr
    · by_cases c1 : e.f1 = rd q pos ∧ e.f0 ∉ q
      · obtain ⟨r, hr, h1, h2⟩ := ih (i + 1) (q ++ [e.f0]) (by omega) (drop_next hd) (rinv_add hinv hmem hb hx (Or.inr ⟨c1.1.symm, rfl⟩) c1.2) (done_add hdone (by omega) _) (by simp; omega) (fun x hx' => by
          rw [get_mem_append hpos]
          rw [htake] at hx'
          rcases List.mem_append.1 hx' with hx' | hx'
          · have := hpart x hx'
            exact ⟨fun hh => List.mem_append_left _ (this.1 hh), fun hh => List.mem_append_left _ (this.2 hh)⟩
          · simp at hx'
            subst hx'
            exact ⟨fun hh => absurd (hh.trans c1.1.symm) (by omega), fun _ => by simp⟩)
        refine ⟨r, step r ?_, h1, h2⟩
        simp only [if_neg c0, if_pos c1]
        exact hr
      · obtain ⟨r, hr, h1, h2⟩ := ih (i + 1) q (by omega) (drop_next hd) hinv hdone hpos (fun x hx' => by
          rw [htake] at hx'
          rcases List.mem_append.1 hx' with hx' | hx'
          · exact hpart x hx'
          · simp at hx'
            subst hx'
            exact ⟨fun hh => Classical.byContradiction fun hn => c0 ⟨hh, hn⟩, fun hh => Classical.byContradiction fun hn => c1 ⟨hh, hn⟩⟩)
        refine ⟨r, step r ?_, h1, h2⟩
        simp only [if_neg c0, if_neg c1]
        exact hr

theorem reach_ev (n : Nat) (hn0 : 0 < n) (hn : n ≤ 6) (es : List S68) (he : ∀ e ∈ es, 0 ≤ e.f0 ∧ e.f0 < e.f1 ∧ e.f1 < n) (hl : es.length < 4611686018427387904) :
    ∃ r, Ev (fun k => spec_l02Reach.f k n es) r ∧ RInv n es r ∧ Done es r r.length := by
  have main : ∀ (d pos : Nat) (q : List Int), RInv n es q → Done es q pos → pos ≤ q.length → n < pos + d → ∃ r, Ev (fun k => spec_l02Reach.l0 k q (pos : Int) n es) r ∧ RInv n es r ∧ Done es r r.length := by
    intro d
    induction d with
    | zero =>
      intro pos q hinv _ hp hd
      have := rinv_len hinv
      omega
    | succ d ih =>
      intro pos q hinv hdone hp hd
      by_cases hlt : pos < q.length
      · obtain ⟨r, ⟨K, hK⟩, h1, h2⟩ := reach_inner n hn es he hl pos (fun q' h1 h2 h3 => ih (pos + 1) q' h1 h2 (by omega) (by omega)) es 0 q (by omega) rfl hinv hdone hlt (fun e he' => by simp at he')
        refine ⟨r, ⟨K + 1, fun k hk => ?_⟩, h1, h2⟩
        obtain ⟨m, rfl⟩ : ∃ m, k = m + 1 := ⟨k - 1, by omega⟩
        have h3 := hK m (by omega)
        dsimp only at h3 ⊢
        simp only [spec_l02Reach.l0]
        rw [if_pos (by omega)]
        exact h3
      · refine ⟨q, ev1 fun k => ?_, hinv, ?_⟩
        · simp only [spec_l02Reach.l0]
          rw [if_neg (by omega)]
        · have : pos = q.length := by omega
          rw [this] at hdone
          exact hdone
  refine main (n + 1) 0 [0] ⟨by simp, fun v hv => by simp at hv; omega, by simp, fun P h0 _ v hv => by simp at hv; rw [hv]; exact h0⟩ (fun j hj => by omega) (by simp) (by omega)

theorem reach_all (n : Nat) (es : List S68) (r : List Int) (h1 : RInv n es r) (h2 : Done es r r.length) : ((r.length : Int) == n) = true ↔ ConnE n es := by
  have hlen := rinv_len h1
  constructor
  · intro h P h0 hP v hv0 hv
    simp at h
    refine h1.2.2.2 P h0 hP v (Classical.byContradiction fun hno => ?_)
    have := List.Nodup.length_le_of_subset (l₁ := v :: r) (by rw [List.nodup_cons]; exact ⟨hno, h1.1⟩) (l₂ := (List.range n).map fun i : Nat => (i : Int)) (fun u hu => by
      have hb : 0 ≤ u ∧ u < n := by
        rcases List.mem_cons.1 hu with rfl | hu
        · omega
        · exact h1.2.1 u hu
      exact List.mem_map.2 ⟨u.toNat, by simp; omega, by omega⟩)
    simp at this
    omega
  · intro h
    have hall := h (fun v => v ∈ r) h1.2.2.1 (fun e he => by
      constructor
      · intro hm
        obtain ⟨j, hj, hjv⟩ := List.mem_iff_getElem.1 hm
        exact (h2 j hj e he).1 (by rw [rd_nat r j hj]; exact hjv.symm)
      · intro hm
        obtain ⟨j, hj, hjv⟩ := List.mem_iff_getElem.1 hm
        exact (h2 j hj e he).2 (by rw [rd_nat r j hj]; exact hjv.symm))
    have := List.Nodup.length_le_of_subset (l₁ := (List.range n).map fun i : Nat => (i : Int)) (l₂ := r) (by
      refine List.Pairwise.map _ (fun a b hab => ?_) List.nodup_range
      show (a : Int) ≠ b
      omega) (fun v hv => by
      obtain ⟨i, hi, rfl⟩ := List.mem_map.1 hv
      simp at hi
      exact hall _ (by omega) (by omega))
    simp at this ⊢
    omega

theorem spec_graphOk_iff (n : Int) (es : List S68) (hl : es.length < 4611686018427387904) : ∃ b : Bool, Ev (fun k => spec_GraphOk.f k n es) b ∧ (b = true ↔ GraphP n es) := by
  have h1 := spec_edgesOk_ev n es hl
  simp only [spec_GraphOk.f]
  by_cases hb : edgesB n es = true
  · obtain ⟨f1, f2, f3, f4⟩ := edgesB_facts hb
    obtain ⟨m, rfl⟩ : ∃ m : Nat, n = m := ⟨n.toNat, by omega⟩
    obtain ⟨r, hr, r1, r2⟩ := reach_ev m (by omega) (by omega) es f4 hl
    rw [hb] at h1
    have main : ∀ (d i : Nat), i + d = es.length → ∃ b : Bool, Ev (fun k => spec_GraphOk.l0 k es (es.length : Int) (i : Int) m es) b ∧
        (b = true ↔ (∀ j, i ≤ j + 1 → j + 1 < es.length → ¬ ((es.getD (j + 1) z68).f0 < (es.getD j z68).f0 ∨ ((es.getD (j + 1) z68).f0 = (es.getD j z68).f0 ∧ (es.getD (j + 1) z68).f1 < (es.getD j z68).f1))) ∧ ConnE m es) := by
      intro d
      induction d with
      | zero =>
        intro i hi
        obtain ⟨K, hK⟩ := hr
        refine ⟨((r.length : Int) == m), ⟨K + 1, fun k hk => ?_⟩, ?_⟩
        · obtain ⟨p, rfl⟩ : ∃ p, k = p + 1 := ⟨k - 1, by omega⟩
          have h3 := hK p (by omega)
          dsimp only at h3 ⊢
          simp only [spec_GraphOk.l0]
          rw [if_neg (by omega), h3]
          rfl
        · rw [reach_all m es r r1 r2]
          exact ⟨fun h => ⟨fun j h1 h2 => by omega, h⟩, fun h => h.2⟩
      | succ d ih =>
        intro i hi
        obtain ⟨b, hK, hiff⟩ := ih (i + 1) (by omega)
        have stop : Ev (fun k => spec_GraphOk.j1 k es (es.length : Int) (i : Int) true m es) false := ev1 fun k => by simp only [spec_GraphOk.j1, if_true]
        have go : Ev (fun k => spec_GraphOk.j1 k es (es.length : Int) (i : Int) false m es) b := by
          refine ev_succ ?_
          simp only [spec_GraphOk.j1, Bool.false_eq_true, if_false, wrap_succ (show i < 4611686018427387904 by omega)]
          exact hK
        by_cases i0 : i = 0
        · subst i0
          refine ⟨b, ev_succ ?_, ?_⟩
          · simp only [spec_GraphOk.l0]
            exact ev_ift (by omega) (ev_ift (by omega) (ev_ift (by omega) (ev_ifn (by omega) go)))
          · rw [hiff]
            exact ⟨fun h => ⟨fun j _ h2 => h.1 j (by omega) h2, h.2⟩, fun h => ⟨fun j _ h2 => h.1 j (by omega) h2, h.2⟩⟩
        · obtain ⟨p, rfl⟩ : ∃ p, i = p + 1 := ⟨i - 1, by omega⟩
          have ew : wrap64 (((p + 1 : Nat) : Int) - 1) = (p : Int) := by unfold wrap64; omega
          by_cases hc : (es.getD (p + 1) z68).f0 < (es.getD p z68).f0 ∨ ((es.getD (p + 1) z68).f0 = (es.getD p z68).f0 ∧ (es.getD (p + 1) z68).f1 < (es.getD p z68).f1)
          · refine ⟨false, ev_succ ?_, ?_⟩
            · simp only [spec_GraphOk.l0, ew, rdE_nat]
              refine ev_ift (by omega) (ev_ift (by omega) (ev_ift (by omega) (ev_ift (by omega) (ev_ift (by omega) (ev_ift (by omega) ?_)))))
              by_cases c0 : (es.getD (p + 1) z68).f0 < (es.getD p z68).f0
              · exact ev_ift c0 stop
              · have c1 : (es.getD (p + 1) z68).f1 < (es.getD p z68).f1 := by omega
                simp only [decide_eq_true c1]
                exact ev_ifn c0 (ev_ift (by omega) stop)
            · simp only [Bool.false_eq_true, false_iff]
              exact fun h => h.1 p (by omega) (by omega) hc
          · refine ⟨b, ev_succ ?_, ?_⟩
            · simp only [spec_GraphOk.l0, ew, rdE_nat]
              refine ev_ift (by omega) (ev_ift (by omega) (ev_ift (by omega) (ev_ift (by omega) (ev_ift (by omega) (ev_ift (by omega) (ev_ifn (by omega) ?_))))))
              by_cases c0 : (es.getD (p + 1) z68).f0 = (es.getD p z68).f0
              · have c1 : ¬ (es.getD (p + 1) z68).f1 < (es.getD p z68).f1 := by omega
                simp only [decide_eq_false c1]
                exact ev_ift c0 go
              · exact ev_ifn c0 go
            · rw [hiff]
              refine ⟨fun h => ⟨fun j h1 h2 => ?_, h.2⟩, fun h => ⟨fun j _ h2 => h.1 j (by omega) h2, h.2⟩⟩
              by_cases e : j = p
              · subst e; exact hc
              · exact h.1 j (by omega) h2
    obtain ⟨b, hb2, hiff⟩ := main es.length 0 (by omega)
    refine ⟨b, Ev.bind h1 ?_, ?_⟩
    · simp only [if_true]
      exact hb2
    · rw [hiff]
      exact ⟨fun h => ⟨hb, fun i hi => h.1 i (by omega) hi, h.2⟩, fun h => ⟨fun j _ h2 => h.2.1 j h2, h.2.2⟩⟩
  · refine ⟨false, Ev.bind h1 ?_, ?_⟩
    · simp only [hb]
      exact Ev.now _
    · simp only [Bool.false_eq_true, false_iff]
      exact fun h => hb h.1

/-- Both tell whether the graph is valid. -/
theorem graphOk_both (n : Int) (es : List S68) (hl : es.length < 4611686018427387904) : ∃ b : Bool, Ev (fun k => impl_GraphOk.f k n es) b ∧ Ev (fun k => spec_GraphOk.f k n es) b ∧ (b = true ↔ GraphP n es) := by
  obtain ⟨b, h1, i1⟩ := impl_graphOk_iff n es hl
  obtain ⟨b', h2, i2⟩ := spec_graphOk_iff n es hl
  have : b' = b := by rw [Bool.eq_iff_iff, i1, i2]
  subst this
  exact ⟨b', h1, h2, i1⟩

end Go.Proofs.Ytfpcgccnhpfcnaa.Pure
end
section
set_option linter.unusedVariables false
set_option linter.unusedSimpArgs false
namespace Go.Proofs.Ytfpcgccnhpfcnaa.Pure
open Go.RowKit Go.Proofs.Ytfpcgccnhpfcnaa.P Go.Proofs.YtfpcgccnhpfcnaaW.PrintWords Go.Proofs.YtfpcgccnhpfcnaaW.PrintLast Go.Proofs.YtfpcgccnhpfcnaaW.PrintMore Go.Proofs.Ytfpcgccnhpfcnaa.Base Go.Proofs.Ytfpcgccnhpfcnaa.Loops

theorem toIntS_l0 (l : List Int) (hl : l.length < 4611686018427387904) : ∀ (d k i : Nat) (x : List Int), i + d = l.length → x.length = l.length → x.take i = l.take i → d < k → laws_toIntS.l0 k l x (i : Int) = some l := by
  intro d
  induction d with
  | zero =>
    intro k i x hi hx ht hk
    obtain ⟨k, rfl⟩ := succ_of_lt hk
    simp only [laws_toIntS.l0]
    rw [if_neg (by omega)]
    rw [List.take_of_length_le (by omega), List.take_of_length_le (by omega)] at ht
    rw [ht]
  | succ d ih =>
    intro k i x hi hx ht hk
    obtain ⟨k, rfl⟩ := succ_of_lt hk
    simp only [laws_toIntS.l0]
    rw [if_pos (by omega), if_pos (by omega), if_pos (by omega), wrap_succ (by omega), rd_nat l i (by omega), Int.toNat_natCast]
    refine ih k (i + 1) _ (by omega) (by simpa using hx) ?_ (by omega)
    rw [List.take_succ_eq_append_getElem (by simp; omega), List.take_succ_eq_append_getElem (by omega), List.take_set_of_le (Nat.le_refl _), ht]
    simp

theorem toIntS_ev (l : List Int) (hl : l.length ≤ 1048576) : Ev (fun k => laws_toIntS.f k l) l := by
  refine ev_k l.length fun k hk => ?_
  unfold laws_toIntS.f
  rw [if_pos (by omega), if_pos (by omega)]
  exact toIntS_l0 l (by omega) l.length k 0 _ (by omega) (by simp) (by simp) hk

end Go.Proofs.Ytfpcgccnhpfcnaa.Pure
end
section
set_option linter.unusedVariables false
set_option linter.unusedSimpArgs false
namespace Go.Proofs.Ytfpcgccnhpfcnaa.Pure
open Go.RowKit Go.Proofs.Ytfpcgccnhpfcnaa.P Go.Proofs.YtfpcgccnhpfcnaaW.PrintWords Go.Proofs.YtfpcgccnhpfcnaaW.PrintLast Go.Proofs.YtfpcgccnhpfcnaaW.PrintMore Go.Proofs.Ytfpcgccnhpfcnaa.Base Go.Proofs.Ytfpcgccnhpfcnaa.Loops

theorem eqIntS_l0 (l : List Int) (hl : l.length < 4611686018427387904) : ∀ (d k i : Nat), i + d = l.length → d < k → laws_eqIntS.l0 k l l (i : Int) = some true := by
  intro d
  induction d with
  | zero =>
    intro k i hi hk
    obtain ⟨k, rfl⟩ := succ_of_lt hk
    simp only [laws_eqIntS.l0]
    rw [if_neg (by omega)]
  | succ d ih =>
    intro k i hi hk
    obtain ⟨k, rfl⟩ := succ_of_lt hk
    simp only [laws_eqIntS.l0]
    rw [if_pos (by omega), if_pos (by omega), if_pos (by omega), wrap_succ (by omega)]
    exact ih k (i + 1) (by omega) (by omega)

theorem eqIntS_ev (l : List Int) (hl : l.length < 4611686018427387904) : Ev (fun k => laws_eqIntS.f k l l) true := by
  refine ev_k l.length fun k hk => ?_
  unfold laws_eqIntS.f
  simp only [if_true]
  exact eqIntS_l0 l hl l.length k 0 (by omega) hk

end Go.Proofs.Ytfpcgccnhpfcnaa.Pure
end
section
set_option linter.unusedVariables false
set_option linter.unusedSimpArgs false
namespace Go.Proofs.Ytfpcgccnhpfcnaa.Pure
open Go.RowKit Go.Proofs.Ytfpcgccnhpfcnaa.P Go.Proofs.YtfpcgccnhpfcnaaW.PrintWords Go.Proofs.YtfpcgccnhpfcnaaW.PrintLast Go.Proofs.YtfpcgccnhpfcnaaW.PrintMore Go.Proofs.Ytfpcgccnhpfcnaa.Base Go.Proofs.Ytfpcgccnhpfcnaa.Bits Go.Proofs.Ytfpcgccnhpfcnaa.Loops

theorem within_eq (a b c : Int) : impl_within.f a b c = some (decide (b ≤ a ∧ a ≤ c)) := by
  unfold impl_within.f
  by_cases h : a ≥ b
  · rw [if_pos h]; simp; omega
  · rw [if_neg h]; simp; omega

theorem in_eq (a b c : Int) : spec_l01In.f a b c = some (decide (b ≤ a ∧ a ≤ c)) := by
  unfold spec_l01In.f
  by_cases h : a ≥ b
  · rw [if_pos h]; simp; omega
  · rw [if_neg h]; simp; omega

/-- All elements from lo to hi. -/
def allB (l : List Int) (lo hi : Int) : Bool := l.all fun x => decide (lo ≤ x ∧ x ≤ hi)

theorem allWithin_ev (l : List Int) (lo hi : Int) (hl : l.length < 4611686018427387904) : Ev (fun k => impl_allWithin.f k l lo hi) (allB l lo hi) := by
  simp only [impl_allWithin.f]
  refine ev_list0 l (fun k (_ : Unit) i => impl_allWithin.l0 k lo hi l (l.length : Int) i) (fun _ r => allB r lo hi) (fun _ _ => True) (fun s _ => ev1 fun k => ?_) (fun s a rest i hlt hd _ => ?_) () trivial
  · simp only [impl_allWithin.l0]
    rw [if_neg (by omega)]; rfl
  · by_cases h : lo ≤ a ∧ a ≤ hi
    · refine Or.inr ⟨(), trivial, by simp [allB, h], 0, fun k _ => ?_⟩
      simp only [impl_allWithin.l0, rd_drop hd, within_eq, Option.bind_some]
      rw [if_pos (by omega), if_pos (by omega), if_pos (by omega), if_pos (by simp [h]), wrap_succ (by omega)]
    · refine Or.inl (ev1 fun k => ?_)
      simp only [impl_allWithin.l0, rd_drop hd, within_eq, Option.bind_some]
      rw [if_pos (by omega), if_pos (by omega), if_pos (by omega), if_neg (by simpa using h)]
      simp [allB, h]

theorem all_loop (l : List Int) (lo hi : Int) (hl : l.length < 4611686018427387904) (g : Nat → Int → Option Bool)
    (hg : ∀ k i, g (k + 1) i = if i < (l.length : Int) then (if 0 ≤ i then (if i < (l.length : Int) then ((spec_l01In.f (rd l i) lo hi).bind fun t => (if t = true then (g k (wrap64 (i + 1))) else (some false))) else (none)) else (none)) else (some true)) :
    Ev (fun k => g k 0) (allB l lo hi) := by
  refine ev_list0 l (fun k (_ : Unit) i => g k i) (fun _ r => allB r lo hi) (fun _ _ => True) (fun s _ => ev1 fun k => ?_) (fun s a rest i hlt hd _ => ?_) () trivial
  · rw [hg, if_neg (by omega)]; rfl
  · by_cases h : lo ≤ a ∧ a ≤ hi
    · refine Or.inr ⟨(), trivial, by simp [allB, h], 0, fun k _ => ?_⟩
      rw [hg, if_pos (by omega), if_pos (by omega), if_pos (by omega), rd_drop hd, in_eq, Option.bind_some, if_pos (by simp [h]), wrap_succ (by omega)]
    · refine Or.inl (ev1 fun k => ?_)
      rw [hg, if_pos (by omega), if_pos (by omega), if_pos (by omega), rd_drop hd, in_eq, Option.bind_some, if_neg (by simpa using h)]
      simp [allB, h]

end Go.Proofs.Ytfpcgccnhpfcnaa.Pure
end
section
set_option linter.unusedVariables false
set_option linter.unusedSimpArgs false
namespace Go.Proofs.Ytfpcgccnhpfcnaa.Pure
open Go.RowKit Go.Proofs.Ytfpcgccnhpfcnaa.P Go.Proofs.YtfpcgccnhpfcnaaW.PrintWords Go.Proofs.YtfpcgccnhpfcnaaW.PrintLast Go.Proofs.YtfpcgccnhpfcnaaW.PrintMore Go.Proofs.Ytfpcgccnhpfcnaa.Base Go.Proofs.Ytfpcgccnhpfcnaa.Bits Go.Proofs.Ytfpcgccnhpfcnaa.Loops

/-- A valid divisor. -/
def DivP (n : Int) (es : List S68) (d : List Int) : Prop := GraphP n es ∧ (d.length : Int) = n ∧ allB d (-60) 60 = true

theorem divOk_both (n : Int) (es : List S68) (d : List Int) (hl : es.length < 4611686018427387904) (hd : d.length < 4611686018427387904) : ∃ b : Bool, Ev (fun k => impl_DivisorOk.f k n es d) b ∧ Ev (fun k => spec_DivisorOk.f k n es d) b ∧ (b = true ↔ DivP n es d) := by
  obtain ⟨b, h1, h2, hb⟩ := graphOk_both n es hl
  simp only [impl_DivisorOk.f, spec_DivisorOk.f]
  have off : ∀ q : Bool, q = true → Ev (fun k => spec_DivisorOk.j0 k d q) false := fun q hq => ev1 fun k => by
    simp only [spec_DivisorOk.j0, hq, if_true]
  cases b with
  | false =>
    refine ⟨false, Ev.bind h1 ?_, Ev.bind h2 ?_, ?_⟩
    · simp only [Bool.false_eq_true, if_false]; exact Ev.now _
    · simp only [Bool.false_eq_true, if_false]; exact off _ rfl
    · simp only [Bool.false_eq_true, false_iff] at hb ⊢
      exact fun h => hb h.1
  | true =>
    simp only [true_iff] at hb
    by_cases hn : (d.length : Int) = n
    · refine ⟨allB d (-60) 60, Ev.bind h1 ?_, Ev.bind h2 ?_, ?_⟩
      · simp only [if_true, if_pos hn]
        exact Ev.bind (allWithin_ev d (-60) 60 hd) (Ev.now _)
      · simp only [if_true]
        refine ev_succ ?_
        simp only [spec_DivisorOk.j0]
        simp only [if_neg (show ¬ ((d.length : Int) != n) = true by simp [hn])]
        exact all_loop d (-60) 60 hd (fun k i => spec_DivisorOk.l0 k d (d.length : Int) i) (fun k i => by simp only [spec_DivisorOk.l0])
      · exact ⟨fun h => ⟨hb, hn, h⟩, fun h => h.2.2⟩
    · refine ⟨false, Ev.bind h1 ?_, Ev.bind h2 ?_, ?_⟩
      · simp only [if_true, if_neg hn]; exact Ev.now _
      · simp only [if_true]; exact off _ (by simp [hn])
      · simp only [Bool.false_eq_true, false_iff]
        exact fun h => hn h.2.1

end Go.Proofs.Ytfpcgccnhpfcnaa.Pure
end
section
set_option linter.unusedVariables false
set_option linter.unusedSimpArgs false
namespace Go.Proofs.Ytfpcgccnhpfcnaa.Pure
open Go.RowKit Go.Proofs.Ytfpcgccnhpfcnaa.P Go.Proofs.YtfpcgccnhpfcnaaW.PrintWords Go.Proofs.YtfpcgccnhpfcnaaW.PrintLast Go.Proofs.YtfpcgccnhpfcnaaW.PrintMore Go.Proofs.Ytfpcgccnhpfcnaa.Base Go.Proofs.Ytfpcgccnhpfcnaa.Bits Go.Proofs.Ytfpcgccnhpfcnaa.Loops

/-- A valid script. -/
def ScrP (n : Int) (es : List S68) (d : List Int) : Prop := GraphP n es ∧ (d.length : Int) = n ∧ allB d (-100000) 100000 = true

theorem scrOk_both (n : Int) (es : List S68) (d : List Int) (hl : es.length < 4611686018427387904) (hd : d.length < 4611686018427387904) : ∃ b : Bool, Ev (fun k => impl_ScriptOk.f k n es d) b ∧ Ev (fun k => spec_ScriptOk.f k n es d) b ∧ (b = true ↔ ScrP n es d) := by
  obtain ⟨b, h1, h2, hb⟩ := graphOk_both n es hl
  simp only [impl_ScriptOk.f, spec_ScriptOk.f]
  have off : ∀ q : Bool, q = true → Ev (fun k => spec_ScriptOk.j0 k d q) false := fun q hq => ev1 fun k => by
    simp only [spec_ScriptOk.j0, hq, if_true]
  cases b with
  | false =>
    refine ⟨false, Ev.bind h1 ?_, Ev.bind h2 ?_, ?_⟩
    · simp only [Bool.false_eq_true, if_false]; exact Ev.now _
    · simp only [Bool.false_eq_true, if_false]; exact off _ rfl
    · simp only [Bool.false_eq_true, false_iff] at hb ⊢
      exact fun h => hb h.1
  | true =>
    simp only [true_iff] at hb
    by_cases hn : (d.length : Int) = n
    · refine ⟨allB d (-100000) 100000, Ev.bind h1 ?_, Ev.bind h2 ?_, ?_⟩
      · simp only [if_true, if_pos hn]
        exact Ev.bind (allWithin_ev d (-100000) 100000 hd) (Ev.now _)
      · simp only [if_true]
        refine ev_succ ?_
        simp only [spec_ScriptOk.j0]
        simp only [if_neg (show ¬ ((d.length : Int) != n) = true by simp [hn])]
        exact all_loop d (-100000) 100000 hd (fun k i => spec_ScriptOk.l0 k d (d.length : Int) i) (fun k i => by simp only [spec_ScriptOk.l0])
      · exact ⟨fun h => ⟨hb, hn, h⟩, fun h => h.2.2⟩
    · refine ⟨false, Ev.bind h1 ?_, Ev.bind h2 ?_, ?_⟩
      · simp only [if_true, if_neg hn]; exact Ev.now _
      · simp only [if_true]; exact off _ (by simp [hn])
      · simp only [Bool.false_eq_true, false_iff]
        exact fun h => hn h.2.1

end Go.Proofs.Ytfpcgccnhpfcnaa.Pure
end
section
set_option linter.unusedVariables false
set_option linter.unusedSimpArgs false
namespace Go.Proofs.Ytfpcgccnhpfcnaa.Pure
open Go.RowKit Go.Proofs.Ytfpcgccnhpfcnaa.P Go.Proofs.YtfpcgccnhpfcnaaW.PrintWords Go.Proofs.YtfpcgccnhpfcnaaW.PrintLast Go.Proofs.YtfpcgccnhpfcnaaW.PrintMore Go.Proofs.Ytfpcgccnhpfcnaa.Base Go.Proofs.Ytfpcgccnhpfcnaa.Bits Go.Proofs.Ytfpcgccnhpfcnaa.Loops

theorem getD_set (x : List Int) (i j : Nat) (c : Int) (hi : i < x.length) : (x.set i c).getD j 0 = if i = j then c else x.getD j 0 := by
  simp only [List.getD_eq_getElem?_getD, List.getElem?_set]
  by_cases e : i = j
  · subst e; simp [hi]
  · simp [e]

/-- What an edge brings to vertex u when script s fires. -/
def cE (s : List Int) (u : Nat) (e : S68) : Int :=
  (if e.f0.toNat = u then s.getD e.f1.toNat 0 - s.getD e.f0.toNat 0 else 0) + (if e.f1.toNat = u then s.getD e.f0.toNat 0 - s.getD e.f1.toNat 0 else 0)

def net (s : List Int) (u : Nat) : List S68 → Int
  | [] => 0
  | e :: es => cE s u e + net s u es

def okE (n : Nat) (e : S68) : Prop := 0 ≤ e.f0 ∧ e.f0 < e.f1 ∧ e.f1 < n

/-- One edge of the reference's firing. -/
def stepS (s : List Int) (x : List Int) (e : S68) : List Int :=
  let y := x.set e.f0.toNat (wrap64 (wrap64 (x.getD e.f0.toNat 0 - s.getD e.f0.toNat 0) + s.getD e.f1.toNat 0))
  y.set e.f1.toNat (wrap64 (wrap64 (y.getD e.f1.toNat 0 - s.getD e.f1.toNat 0) + s.getD e.f0.toNat 0))

def In64 (x : List Int) : Prop := ∀ u, wrap64 (x.getD u 0) = x.getD u 0

theorem in64_wrap {x : List Int} (h : In64 x) (u : Nat) (c : Int) : wrap64 (x.getD u 0 + 0) = x.getD u 0 := by rw [Int.add_zero]; exact h u

theorem stepS_get (n : Nat) (s x : List Int) (e : S68) (he : okE n e) (hx : x.length = n) (h : In64 x) (u : Nat) : (stepS s x e).getD u 0 = wrap64 (x.getD u 0 + cE s u e) := by
  obtain ⟨h0, h1, h2⟩ := he
  have hne : ¬ e.f0.toNat = e.f1.toNat := by omega
  simp only [stepS, cE]
  rw [getD_set _ e.f1.toNat u _ (by simp; omega), getD_set x e.f0.toNat e.f1.toNat _ (by omega), if_neg hne, getD_set x e.f0.toNat u _ (by omega)]
  by_cases e1 : e.f1.toNat = u
  · have e0 : ¬ e.f0.toNat = u := by omega
    rw [if_pos e1, if_neg e0, if_pos e1, e1]
    unfold wrap64; omega
  · rw [if_neg e1, if_neg e1]
    by_cases e0 : e.f0.toNat = u
    · rw [if_pos e0, if_pos e0, e0]
      unfold wrap64; omega
    · rw [if_neg e0, if_neg e0]
      exact (in64_wrap h u 0).symm

theorem stepS_len (s x : List Int) (e : S68) : (stepS s x e).length = x.length := by simp [stepS]

theorem foldS_get (n : Nat) (s : List Int) : ∀ (es : List S68) (x : List Int), (∀ e ∈ es, okE n e) → x.length = n → In64 x →
    (es.foldl (stepS s) x).length = n ∧ ∀ u, (es.foldl (stepS s) x).getD u 0 = wrap64 (x.getD u 0 + net s u es) := by
  intro es
  induction es with
  | nil => intro x _ hx h; exact ⟨hx, fun u => by simp only [List.foldl_nil, net]; exact (in64_wrap h u 0).symm⟩
  | cons e es ih =>
    intro x he hx h
    have hs := stepS_get n s x e (he e (by simp)) hx h
    have hi : In64 (stepS s x e) := fun u => by rw [hs u]; exact wrap_wrap _
    obtain ⟨h1, h2⟩ := ih (stepS s x e) (fun y hy => he y (by simp [hy])) (by rw [stepS_len]; exact hx) hi
    refine ⟨h1, fun u => ?_⟩
    simp only [List.foldl_cons, net]
    rw [h2 u, hs u, wrap_wrap_add]
    congr 1; omega

theorem rd_toNat (l : List Int) (i : Int) : rd l i = l.getD i.toNat 0 := rfl

theorem spec_fire_ev (n : Nat) (es : List S68) (d s : List Int) (he : ∀ e ∈ es, okE n e) (hd : d.length = n) (hs : s.length = n) (hn : n ≤ 6) (hl : es.length < 4611686018427387904) (nn : Int) :
    Ev (fun k => spec_l04Fire.f k nn es d s) (es.foldl (stepS s) d) := by
  simp only [spec_l04Fire.f, Option.bind_some, List.nil_append, List.length_nil]
  simp only [if_pos (show 0 + d.length < 17592186044416 by omega)]
  refine ev_list0 es (fun k (x : List Int) i => spec_l04Fire.l0 k s x es (es.length : Int) i) (fun x r => r.foldl (stepS s) x) (fun x r => x.length = n) (fun x hx => ev1 fun k => ?_) (fun x e rest i hlt hdr hx => Or.inr ⟨stepS s x e, by rw [stepS_len]; exact hx, rfl, 0, fun k _ => ?_⟩) d hd
  · simp only [spec_l04Fire.l0]
    rw [if_neg (by omega)]; rfl
  · have hmem : e ∈ es := by
      have : e ∈ es.drop i := by rw [hdr]; simp
      exact List.mem_of_mem_drop this
    obtain ⟨h0, h1, h2⟩ := he e hmem
    simp only [spec_l04Fire.l0, rd_IE hdr, Option.bind_some]
    rw [if_pos (by omega), if_pos (by omega), if_pos (by omega), if_pos (by omega), if_pos (by omega), if_pos (by omega), if_pos (by omega), if_pos (by omega), if_pos (by omega), wrap_succ (by omega)]
    rfl

/-- One edge of the program's firing of one vertex. -/
def stepF (v : Nat) (t : Int) (x : List Int) (e : S68) : List Int :=
  if e.f0.toNat = v then
    let y := x.set v (wrap64 (x.getD v 0 - t))
    y.set e.f1.toNat (wrap64 (y.getD e.f1.toNat 0 + t))
  else if e.f1.toNat = v then
    let y := x.set v (wrap64 (x.getD v 0 - t))
    y.set e.f0.toNat (wrap64 (y.getD e.f0.toNat 0 + t))
  else x

def fE (v : Nat) (t : Int) (u : Nat) (e : S68) : Int :=
  if e.f0.toNat = v then (if v = u then -t else 0) + (if e.f1.toNat = u then t else 0)
  else if e.f1.toNat = v then (if v = u then -t else 0) + (if e.f0.toNat = u then t else 0)
  else 0

def netF (v : Nat) (t : Int) (u : Nat) : List S68 → Int
  | [] => 0
  | e :: es => fE v t u e + netF v t u es

theorem stepF_len (v : Nat) (t : Int) (x : List Int) (e : S68) : (stepF v t x e).length = x.length := by
  simp only [stepF]
  split
  · simp
  · split <;> simp

theorem stepF_get (n v : Nat) (t : Int) (x : List Int) (e : S68) (he : okE n e) (hx : x.length = n) (h : In64 x) (u : Nat) : (stepF v t x e).getD u 0 = wrap64 (x.getD u 0 + fE v t u e) := by
  obtain ⟨h0, h1, h2⟩ := he
  have key : ∀ (p q : Nat), p < n → q < n → p ≠ q → ((x.set p (wrap64 (x.getD p 0 - t))).set q (wrap64 ((x.set p (wrap64 (x.getD p 0 - t))).getD q 0 + t))).getD u 0 = wrap64 (x.getD u 0 + ((if p = u then -t else 0) + (if q = u then t else 0))) := by
    intro p q hp hq hpq
    rw [getD_set _ q u _ (by simp; omega), getD_set x p q _ (by omega), if_neg hpq, getD_set x p u _ (by omega)]
    by_cases e1 : q = u
    · rw [if_pos e1, if_pos e1, if_neg (by omega), e1]
      congr 1; omega
    · rw [if_neg e1, if_neg e1]
      by_cases e0 : p = u
      · rw [if_pos e0, if_pos e0, e0]
        congr 1; omega
      · rw [if_neg e0, if_neg e0]
        exact (in64_wrap h u 0).symm
  simp only [stepF, fE]
  by_cases a : e.f0.toNat = v
  · rw [if_pos a, if_pos a]
    exact key v e.f1.toNat (by omega) (by omega) (by omega)
  · rw [if_neg a, if_neg a]
    by_cases b : e.f1.toNat = v
    · rw [if_pos b, if_pos b]
      exact key v e.f0.toNat (by omega) (by omega) (by omega)
    · rw [if_neg b, if_neg b]
      exact (in64_wrap h u 0).symm

theorem foldF_get (n v : Nat) (t : Int) : ∀ (es : List S68) (x : List Int), (∀ e ∈ es, okE n e) → x.length = n → In64 x →
    (es.foldl (stepF v t) x).length = n ∧ ∀ u, (es.foldl (stepF v t) x).getD u 0 = wrap64 (x.getD u 0 + netF v t u es) := by
  intro es
  induction es with
  | nil => intro x _ hx h; exact ⟨hx, fun u => by simp only [List.foldl_nil, netF]; exact (in64_wrap h u 0).symm⟩
  | cons e es ih =>
    intro x he hx h
    have hs := stepF_get n v t x e (he e (by simp)) hx h
    have hi : In64 (stepF v t x e) := fun u => by rw [hs u]; exact wrap_wrap _
    obtain ⟨h1, h2⟩ := ih (stepF v t x e) (fun y hy => he y (by simp [hy])) (by rw [stepF_len]; exact hx) hi
    refine ⟨h1, fun u => ?_⟩
    simp only [List.foldl_cons, netF]
    rw [h2 u, hs u, wrap_wrap_add]
    congr 1; omega

theorem impl_fire_ev (n : Nat) (es : List S68) (x : List Int) (v : Nat) (t : Int) (he : ∀ e ∈ es, okE n e) (hx : x.length = n) (hn : n ≤ 6) (hl : es.length < 4611686018427387904) (nn : Int) :
    Ev (fun k => impl_fire.f k nn es x (v : Int) t) (es.foldl (stepF v t) x) := by
  simp only [impl_fire.f]
  refine ev_list0 es (fun k (x : List Int) i => impl_fire.l0 k x (v : Int) t es (es.length : Int) i) (fun x r => r.foldl (stepF v t) x) (fun x r => x.length = n) (fun x hx => ev1 fun k => ?_) (fun x e rest i hlt hdr hx => Or.inr ⟨stepF v t x e, by rw [stepF_len]; exact hx, rfl, 0, fun k _ => ?_⟩) x hx
  · simp only [impl_fire.l0]
    rw [if_neg (by omega)]; rfl
  · have hmem : e ∈ es := by
      have : e ∈ es.drop i := by rw [hdr]; simp
      exact List.mem_of_mem_drop this
    obtain ⟨h0, h1, h2⟩ := he e hmem
    simp only [impl_fire.l0, rd_IE hdr, Option.bind_some]
    rw [if_pos (by omega), if_pos (by omega), if_pos (by omega), wrap_succ (by omega)]
    simp only [stepF]
    by_cases a : e.f0.toNat = v
    · rw [if_pos (by omega), if_pos (by omega), if_pos (by omega), if_pos (by omega), if_pos (by omega), if_pos a]
      rfl
    · rw [if_neg (by omega), if_neg a]
      by_cases b : e.f1.toNat = v
      · rw [if_pos (by omega), if_pos (by omega), if_pos (by omega), if_pos (by omega), if_pos (by omega), if_pos b]
        rfl
      · rw [if_neg (by omega), if_neg b]

/-- All vertices from v on fire, each as often as the list says. -/
def fireFrom (es : List S68) : Nat → List Int → List Int → List Int
  | _, [], x => x
  | v, t :: ts, x => fireFrom es (v + 1) ts (es.foldl (stepF v t) x)

def sumF (es : List S68) (u : Nat) : Nat → List Int → Int
  | _, [] => 0
  | v, t :: ts => netF v t u es + sumF es u (v + 1) ts

theorem fireFrom_get (n : Nat) (es : List S68) (he : ∀ e ∈ es, okE n e) : ∀ (ts : List Int) (v : Nat) (x : List Int), x.length = n → In64 x →
    (fireFrom es v ts x).length = n ∧ ∀ u, (fireFrom es v ts x).getD u 0 = wrap64 (x.getD u 0 + sumF es u v ts) := by
  intro ts
  induction ts with
  | nil => intro v x hx h; exact ⟨hx, fun u => by simp only [fireFrom, sumF]; exact (in64_wrap h u 0).symm⟩
  | cons t ts ih =>
    intro v x hx h
    obtain ⟨h1, h2⟩ := foldF_get n v t es x he hx h
    have hi : In64 (es.foldl (stepF v t) x) := fun u => by rw [h2 u]; exact wrap_wrap _
    obtain ⟨h3, h4⟩ := ih (v + 1) _ h1 hi
    refine ⟨h3, fun u => ?_⟩
    simp only [fireFrom, sumF]
    rw [h4 u, h2 u, wrap_wrap_add]
    congr 1; omega

def sumV (u : Nat) (e : S68) : Nat → List Int → Int
  | _, [] => 0
  | v, t :: ts => fE v t u e + sumV u e (v + 1) ts

theorem sumF_cons (u : Nat) (e : S68) (es : List S68) : ∀ (ts : List Int) (v : Nat), sumF (e :: es) u v ts = sumV u e v ts + sumF es u v ts := by
  intro ts
  induction ts with
  | nil => intro v; rfl
  | cons t ts ih => intro v; simp only [sumF, sumV, netF, ih]; omega

theorem sumV_eq (u : Nat) (e : S68) (hne : e.f0.toNat ≠ e.f1.toNat) : ∀ (ts : List Int) (v : Nat), sumV u e v ts =
    (if v ≤ e.f0.toNat ∧ e.f0.toNat < v + ts.length then (if e.f0.toNat = u then -(ts.getD (e.f0.toNat - v) 0) else 0) + (if e.f1.toNat = u then ts.getD (e.f0.toNat - v) 0 else 0) else 0) +
    (if v ≤ e.f1.toNat ∧ e.f1.toNat < v + ts.length then (if e.f1.toNat = u then -(ts.getD (e.f1.toNat - v) 0) else 0) + (if e.f0.toNat = u then ts.getD (e.f1.toNat - v) 0 else 0) else 0) := by
  intro ts
  induction ts with
  | nil => intro v; simp only [sumV, List.length_nil]; rw [if_neg (by omega), if_neg (by omega)]; rfl
  | cons t ts ih =>
    intro v
    simp only [sumV, fE, ih, List.length_cons]
    by_cases a : e.f0.toNat = v
    · rw [if_pos a, if_neg (show ¬ (v + 1 ≤ e.f0.toNat ∧ e.f0.toNat < v + 1 + ts.length) by omega), if_pos (show v ≤ e.f0.toNat ∧ e.f0.toNat < v + (ts.length + 1) by omega), show e.f0.toNat - v = 0 by omega]
      simp only [List.getD_cons_zero]
      by_cases b : v + 1 ≤ e.f1.toNat ∧ e.f1.toNat < v + 1 + ts.length
      · rw [if_pos b, if_pos (show v ≤ e.f1.toNat ∧ e.f1.toNat < v + (ts.length + 1) by omega), show e.f1.toNat - v = (e.f1.toNat - (v + 1)) + 1 by omega]
        simp only [List.getD_cons_succ, a]
        omega
      · rw [if_neg b, if_neg (show ¬ (v ≤ e.f1.toNat ∧ e.f1.toNat < v + (ts.length + 1)) by omega)]
        simp only [a]
        omega
    · rw [if_neg a]
      by_cases b : e.f1.toNat = v
      · rw [if_pos b, if_neg (show ¬ (v + 1 ≤ e.f1.toNat ∧ e.f1.toNat < v + 1 + ts.length) by omega), if_pos (show v ≤ e.f1.toNat ∧ e.f1.toNat < v + (ts.length + 1) by omega), show e.f1.toNat - v = 0 by omega]
        simp only [List.getD_cons_zero]
        by_cases c : v + 1 ≤ e.f0.toNat ∧ e.f0.toNat < v + 1 + ts.length
        · rw [if_pos c, if_pos (show v ≤ e.f0.toNat ∧ e.f0.toNat < v + (ts.length + 1) by omega), show e.f0.toNat - v = (e.f0.toNat - (v + 1)) + 1 by omega]
          simp only [List.getD_cons_succ, b]
          omega
        · rw [if_neg c, if_neg (show ¬ (v ≤ e.f0.toNat ∧ e.f0.toNat < v + (ts.length + 1)) by omega)]
          simp only [b]
          omega
      · rw [if_neg b]
        have p1 : (v + 1 ≤ e.f0.toNat ∧ e.f0.toNat < v + 1 + ts.length) ↔ (v ≤ e.f0.toNat ∧ e.f0.toNat < v + (ts.length + 1)) := by omega
        have p2 : (v + 1 ≤ e.f1.toNat ∧ e.f1.toNat < v + 1 + ts.length) ↔ (v ≤ e.f1.toNat ∧ e.f1.toNat < v + (ts.length + 1)) := by omega
        by_cases q1 : v ≤ e.f0.toNat ∧ e.f0.toNat < v + (ts.length + 1)
        · rw [if_pos (p1.2 q1), if_pos q1, show e.f0.toNat - v = (e.f0.toNat - (v + 1)) + 1 by omega]
          simp only [List.getD_cons_succ]
          by_cases q2 : v ≤ e.f1.toNat ∧ e.f1.toNat < v + (ts.length + 1)
          · rw [if_pos (p2.2 q2), if_pos q2, show e.f1.toNat - v = (e.f1.toNat - (v + 1)) + 1 by omega]
            simp only [List.getD_cons_succ]
            omega
          · rw [if_neg (fun h => q2 (p2.1 h)), if_neg q2]; omega
        · rw [if_neg (fun h => q1 (p1.1 h)), if_neg q1]
          by_cases q2 : v ≤ e.f1.toNat ∧ e.f1.toNat < v + (ts.length + 1)
          · rw [if_pos (p2.2 q2), if_pos q2, show e.f1.toNat - v = (e.f1.toNat - (v + 1)) + 1 by omega]
            simp only [List.getD_cons_succ]
            omega
          · rw [if_neg (fun h => q2 (p2.1 h)), if_neg q2]; omega

theorem sumF_net (n : Nat) (s : List Int) (hs : s.length = n) (u : Nat) : ∀ es : List S68, (∀ e ∈ es, okE n e) → sumF es u 0 s = net s u es := by
  intro es
  induction es with
  | nil =>
    intro _
    have : ∀ (ts : List Int) (v : Nat), sumF ([] : List S68) u v ts = 0 := by
      intro ts
      induction ts with
      | nil => intro v; rfl
      | cons t ts ih => intro v; simp only [sumF, netF, ih]; rfl
    exact this s 0
  | cons e es ih =>
    intro he
    obtain ⟨h0, h1, h2⟩ := he e (by simp)
    rw [sumF_cons, ih (fun y hy => he y (by simp [hy])), sumV_eq u e (by omega)]
    simp only [net, cE]
    rw [if_pos (show 0 ≤ e.f0.toNat ∧ e.f0.toNat < 0 + s.length by omega), if_pos (show 0 ≤ e.f1.toNat ∧ e.f1.toNat < 0 + s.length by omega), Nat.sub_zero, Nat.sub_zero]
    by_cases a : e.f0.toNat = u
    · by_cases b : e.f1.toNat = u
      · omega
      · simp only [if_pos a, if_neg b]; omega
    · by_cases b : e.f1.toNat = u
      · simp only [if_neg a, if_pos b]; omega
      · simp only [if_neg a, if_neg b]; omega

theorem copy_eq (l : List Int) (h : l.length < 17592186044416) : impl_copyInts.f l = some l := by
  unfold impl_copyInts.f
  rw [if_pos (by simpa using h)]; rfl

theorem impl_fired_ev (n : Nat) (es : List S68) (d s : List Int) (he : ∀ e ∈ es, okE n e) (hd : d.length = n) (hs : s.length = n) (hn : n ≤ 6) (hl : es.length < 4611686018427387904) (nn : Int) :
    Ev (fun k => impl_fired.f k nn es d s) (fireFrom es 0 s d) := by
  simp only [impl_fired.f, copy_eq d (by omega), Option.bind_some]
  have main : ∀ (rest : List Int) (i : Nat) (x : List Int), i ≤ s.length → s.drop i = rest → x.length = n → Ev (fun k => impl_fired.l0 k x s (s.length : Int) (i : Int) nn es) (fireFrom es i rest x) := by
    intro rest
    induction rest with
    | nil =>
      intro i x hi hdr hx
      have := drop_nil hdr
      refine ev1 fun k => ?_
      simp only [impl_fired.l0]
      rw [if_neg (by omega)]; rfl
    | cons t rest ih =>
      intro i x hi hdr hx
      have hlt := drop_lt hdr
      obtain ⟨K, hK⟩ := ih (i + 1) (es.foldl (stepF i t) x) (by omega) (drop_next hdr) (by
        have : ∀ (es : List S68) (x : List Int), (es.foldl (stepF i t) x).length = x.length := by
          intro es
          induction es with
          | nil => intro x; rfl
          | cons e es ih => intro x; rw [List.foldl_cons, ih, stepF_len]
        rw [this]; exact hx)
      obtain ⟨K', hK'⟩ := impl_fire_ev n es x i t he hx hn hl nn
      refine ⟨K + K' + 1, fun k hk => ?_⟩
      obtain ⟨m, rfl⟩ : ∃ m, k = m + 1 := ⟨k - 1, by omega⟩
      have h1 := hK m (by omega)
      have h2 := hK' m (by omega)
      dsimp only at h1 h2 ⊢
      simp only [impl_fired.l0, rd_drop hdr]
      rw [if_pos (by omega), if_pos (by omega), if_pos (by omega), h2, Option.bind_some, wrap_succ (by omega), h1]
      rfl
  exact main s 0 d (by omega) rfl hd

/-- Lists of one length with the same elements. -/
theorem list_eq {x y : List Int} (h : x.length = y.length) (hu : ∀ u, x.getD u 0 = y.getD u 0) : x = y := by
  refine List.ext_getElem h fun i h1 h2 => ?_
  have := hu i
  simp only [List.getD_eq_getElem?_getD, List.getElem?_eq_getElem h1, List.getElem?_eq_getElem h2, Option.getD_some] at this
  exact this

theorem fired_same (n : Nat) (es : List S68) (d s : List Int) (he : ∀ e ∈ es, okE n e) (hd : d.length = n) (hs : s.length = n) (h : In64 d) : fireFrom es 0 s d = es.foldl (stepS s) d := by
  obtain ⟨h1, h2⟩ := foldS_get n s es d he hd h
  obtain ⟨h3, h4⟩ := fireFrom_get n es he s 0 d hd h
  refine list_eq (by omega) fun u => ?_
  rw [h2 u, h4 u, sumF_net n s hs u es he]

theorem allB_get {l : List Int} {lo hi : Int} (h : allB l lo hi = true) (hlo : lo ≤ 0) (hhi : 0 ≤ hi) (u : Nat) : lo ≤ l.getD u 0 ∧ l.getD u 0 ≤ hi := by
  simp only [allB, List.all_eq_true, decide_eq_true_eq] at h
  rw [List.getD_eq_getElem?_getD]
  rcases Nat.lt_or_ge u l.length with hu | hu
  · rw [List.getElem?_eq_getElem hu]
    exact h _ (List.getElem_mem hu)
  · rw [List.getElem?_eq_none hu]
    exact ⟨hlo, hhi⟩

theorem in64_all {l : List Int} {lo hi : Int} (h : allB l lo hi = true) (hlo : lo ≤ 0) (hhi : 0 ≤ hi) (h1 : -9223372036854775808 ≤ lo) (h2 : hi < 9223372036854775808) : In64 l := fun u => by
  have := allB_get h hlo hhi u
  exact wrap_id (by omega) (by omega)

/-- Both fire alike; what they answer. -/
theorem fireScript_both (n : Int) (es : List S68) (d s : List Int) (hl : es.length < 4611686018427387904) (hd : d.length < 4611686018427387904) (hs : s.length < 4611686018427387904) :
    ∃ (r : List Int) (q : Bool), Ev (fun k => impl_FireScript.f k n es d s) (r, q) ∧ Ev (fun k => spec_FireScript.f k n es d s) (r, q) ∧ r.length ≤ 6 ∧
      (q = true ↔ DivP n es d ∧ ScrP n es s) ∧ (q = false → r = []) ∧ (q = true → r = es.foldl (stepS s) d) := by
  obtain ⟨b, h1, h2, hb⟩ := divOk_both n es d hl hd
  obtain ⟨c, h3, h4, hc⟩ := scrOk_both n es s hl hs
  simp only [impl_FireScript.f, spec_FireScript.f]
  cases b with
  | false =>
    refine ⟨[], false, Ev.bind h1 ?_, Ev.bind h2 ?_, by simp, ?_, fun _ => rfl, fun h => by cases h⟩
    · simp only [Bool.false_eq_true, if_false]; exact Ev.now _
    · simp only [Bool.false_eq_true, if_false]; exact Ev.now _
    · simp only [Bool.false_eq_true, false_iff] at hb ⊢; exact fun h => hb h.1
  | true =>
    simp only [true_iff] at hb
    cases c with
    | false =>
      refine ⟨[], false, Ev.bind h1 ?_, Ev.bind h2 ?_, by simp, ?_, fun _ => rfl, fun h => by cases h⟩
      · simp only [if_true]
        refine Ev.bind h3 ?_
        simp only [Bool.false_eq_true, if_false]; exact Ev.now _
      · simp only [if_true]
        refine Ev.bind h4 ?_
        simp only [Bool.false_eq_true, if_false]; exact Ev.now _
      · simp only [Bool.false_eq_true, false_iff] at hc ⊢; exact fun h => hc h.2
    | true =>
      simp only [true_iff] at hc
      obtain ⟨f1, f2, f3, f4⟩ := edgesB_facts hb.1.1
      obtain ⟨m, rfl⟩ : ∃ m : Nat, n = m := ⟨n.toNat, by omega⟩
      have hdl : d.length = m := by have := hb.2.1; omega
      have hsl : s.length = m := by have := hc.2.1; omega
      have h64 := in64_all hb.2.2 (by omega) (by omega) (by omega) (by omega)
      have hsame := fired_same m es d s f4 hdl hsl h64
      have hlen := (foldS_get m s es d f4 hdl h64).1
      refine ⟨es.foldl (stepS s) d, true, Ev.bind h1 ?_, Ev.bind h2 ?_, by omega, by simp [hb, hc], (fun h => by cases h), fun _ => rfl⟩
      · simp only [if_true]
        refine Ev.bind h3 ?_
        simp only [if_true]
        refine Ev.bind (impl_fired_ev m es d s f4 hdl hsl (by omega) hl m) ?_
        rw [hsame]
        exact Ev.now _
      · simp only [if_true]
        refine Ev.bind h4 ?_
        simp only [if_true]
        refine Ev.bind (spec_fire_ev m es d s f4 hdl hsl (by omega) hl m) ?_
        exact Ev.now _

end Go.Proofs.Ytfpcgccnhpfcnaa.Pure
end
section
set_option linter.unusedVariables false
set_option linter.unusedSimpArgs false
namespace Go.Proofs.Ytfpcgccnhpfcnaa.Pure
open Go.RowKit Go.Proofs.Ytfpcgccnhpfcnaa.P Go.Proofs.YtfpcgccnhpfcnaaW.PrintWords Go.Proofs.YtfpcgccnhpfcnaaW.PrintLast Go.Proofs.YtfpcgccnhpfcnaaW.PrintMore Go.Proofs.Ytfpcgccnhpfcnaa.Base Go.Proofs.Ytfpcgccnhpfcnaa.Bits Go.Proofs.Ytfpcgccnhpfcnaa.Loops

/-- The script of a set; nothing where it is no set of vertices. -/
def setF (n : Nat) : List Int → List Int → Option (List Int)
  | x, [] => some x
  | x, v :: r => if 0 ≤ v ∧ v ≤ (n : Int) - 1 then (if x.getD v.toNat 0 = 1 then none else setF n (x.set v.toNat 1) r) else none

def outS : Option (List Int) → List Int × Bool
  | some y => (y, true)
  | none => ([], false)

def outF (es : List S68) (d : List Int) : Option (List Int) → List Int × Bool
  | some y => (fireFrom es 0 y d, true)
  | none => ([], false)

theorem setF_some (n : Nat) : ∀ (r x y : List Int), setF n x r = some y → y.length = x.length ∧ ∀ v ∈ r, 0 ≤ v ∧ v < n := by
  intro r
  induction r with
  | nil => intro x y h; simp only [setF, Option.some.injEq] at h; subst h; exact ⟨rfl, fun v hv => by cases hv⟩
  | cons a r ih =>
    intro x y h
    simp only [setF] at h
    by_cases h1 : 0 ≤ a ∧ a ≤ (n : Int) - 1
    · rw [if_pos h1] at h
      by_cases h2 : x.getD a.toNat 0 = 1
      · rw [if_pos h2] at h; cases h
      · rw [if_neg h2] at h
        obtain ⟨h3, h4⟩ := ih _ _ h
        refine ⟨by rw [h3]; simp, fun v hv => ?_⟩
        rcases List.mem_cons.1 hv with rfl | hv
        · omega
        · exact h4 v hv
    · rw [if_neg h1] at h; cases h

theorem specSet_ev (n : Nat) (hn : n ≤ 6) (s : List Int) (hs : s.length < 4611686018427387904) : Ev (fun k => spec_l04Set.f k n s) (outS (setF n (List.replicate n 0) s)) := by
  simp only [spec_l04Set.f]
  refine ev_ift (by omega) (ev_ift (by omega) ?_)
  rw [Int.toNat_natCast]
  have ew : wrap64 ((n : Int) - 1) = (n : Int) - 1 := by unfold wrap64; omega
  refine ev_listE s (fun k (x : List Int) i => spec_l04Set.l0 k n x s (s.length : Int) i) (fun x r => outS (setF n x r)) (fun x _ => x.length = n) (fun x hx => ev1 fun k => ?_) (fun x v rest i hlt hd hx => ?_) _ (by simp)
  · simp only [spec_l04Set.l0]
    rw [if_neg (by omega)]; rfl
  · by_cases h1 : 0 ≤ v ∧ v ≤ (n : Int) - 1
    · by_cases h2 : x.getD v.toNat 0 = 1
      · refine Or.inl (ev_succ ?_)
        simp only [spec_l04Set.l0, rd_drop hd, in_eq, ew, Option.bind_some, setF, if_pos h1, if_pos h2, outS]
        exact ev_ift (by omega) (ev_ift (by omega) (ev_ift (by omega) (ev_ift (decide_eq_true h1) (ev_ift (by omega) (ev_ift (by omega) (ev_ift h2 (Ev.now _)))))))
      · refine Or.inr ⟨x.set v.toNat 1, by simpa using hx, by simp only [setF, if_pos h1, if_neg h2], fun r hr => ev_succ ?_⟩
        simp only [spec_l04Set.l0, rd_drop hd, in_eq, ew, Option.bind_some, wrap_succ (show i < 4611686018427387904 by omega)]
        exact ev_ift (by omega) (ev_ift (by omega) (ev_ift (by omega) (ev_ift (decide_eq_true h1) (ev_ift (by omega) (ev_ift (by omega) (ev_ifn h2 hr))))))
    · refine Or.inl (ev_succ ?_)
      simp only [spec_l04Set.l0, rd_drop hd, in_eq, ew, Option.bind_some, setF, if_neg h1, outS]
      exact ev_ift (by omega) (ev_ift (by omega) (ev_ift (by omega) (ev_ifn (by rw [decide_eq_false h1]; decide) (Ev.now _))))

theorem implSet_ev (n : Nat) (hn : n ≤ 6) (es : List S68) (d s : List Int) (he : ∀ e ∈ es, okE n e) (hd : d.length = n) (hl : es.length < 4611686018427387904) (hs : s.length < 4611686018427387904) :
    Ev (fun k => impl_FireSet.l0 k d (List.replicate n 0) s (s.length : Int) 0 n es) (outF es d (setF n (List.replicate n 0) s)) := by
  have ew : wrap64 ((n : Int) - 1) = (n : Int) - 1 := by unfold wrap64; omega
  refine ev_listE s (fun k (x : List Int) i => impl_FireSet.l0 k d x s (s.length : Int) i n es) (fun x r => outF es d (setF n x r)) (fun x _ => x.length = n) (fun x hx => ev_succ ?_) (fun x v rest i hlt hdr hx => ?_) _ (by simp)
  · simp only [impl_FireSet.l0]
    refine ev_ifn (by omega) (Ev.bind (impl_fired_ev n es d x he hd hx hn hl n) ?_)
    exact Ev.now _
  · by_cases h1 : 0 ≤ v ∧ v ≤ (n : Int) - 1
    · by_cases h2 : x.getD v.toNat 0 = 1
      · refine Or.inl (ev_succ ?_)
        simp only [impl_FireSet.l0, rd_drop hdr, within_eq, ew, Option.bind_some, setF, if_pos h1, if_pos h2, outF]
        exact ev_ift (by omega) (ev_ift (by omega) (ev_ift (by omega) (ev_ift (decide_eq_true h1) (ev_ift (by omega) (ev_ift (by omega) (ev_ift h2 (Ev.now _)))))))
      · refine Or.inr ⟨x.set v.toNat 1, by simpa using hx, by simp only [setF, if_pos h1, if_neg h2], fun r hr => ev_succ ?_⟩
        simp only [impl_FireSet.l0, rd_drop hdr, within_eq, ew, Option.bind_some, wrap_succ (show i < 4611686018427387904 by omega)]
        exact ev_ift (by omega) (ev_ift (by omega) (ev_ift (by omega) (ev_ift (decide_eq_true h1) (ev_ift (by omega) (ev_ift (by omega) (ev_ifn h2 hr))))))
    · refine Or.inl (ev_succ ?_)
      simp only [impl_FireSet.l0, rd_drop hdr, within_eq, ew, Option.bind_some, setF, if_neg h1, outF]
      exact ev_ift (by omega) (ev_ift (by omega) (ev_ift (by omega) (ev_ifn (by rw [decide_eq_false h1]; decide) (Ev.now _))))

/-- Both fire a set alike. -/
theorem fireSet_both (n : Int) (es : List S68) (d s : List Int) (hl : es.length < 4611686018427387904) (hd : d.length < 4611686018427387904) (hs : s.length < 4611686018427387904) :
    ∃ (r : List Int) (q : Bool), Ev (fun k => impl_FireSet.f k n es d s) (r, q) ∧ Ev (fun k => spec_FireSet.f k n es d s) (r, q) ∧ r.length ≤ 6 ∧ (q = true → DivP n es d ∧ (r.length : Int) = n ∧ ∀ v ∈ s, 0 ≤ v ∧ v < n) := by
  obtain ⟨b, h1, h2, hb⟩ := divOk_both n es d hl hd
  simp only [impl_FireSet.f, spec_FireSet.f]
  cases b with
  | false => exact ⟨[], false, Ev.bind h1 (ev_iff (Ev.now _)), Ev.bind h2 (ev_iff (Ev.now _)), by simp, fun h => by cases h⟩
  | true =>
    simp only [true_iff] at hb
    obtain ⟨f1, f2, f3, f4⟩ := edgesB_facts hb.1.1
    obtain ⟨m, rfl⟩ : ∃ m : Nat, n = m := ⟨n.toNat, by omega⟩
    have hdl : d.length = m := by have := hb.2.1; omega
    have h64 := in64_all hb.2.2 (by omega) (by omega) (by omega) (by omega)
    have hi := implSet_ev m (by omega) es d s f4 hdl hl hs
    have hp := specSet_ev m (by omega) s hs
    have h3 : Ev (fun k => (impl_DivisorOk.f k (m : Int) es d).bind fun t => if t = true then (if 0 ≤ (m : Int) then (if (m : Int).toNat ≤ 35184372088832 then (impl_FireSet.l0 k d (List.replicate (m : Int).toNat 0) s (s.length : Int) 0 m es) else none) else none) else some (([] : List Int), false)) (outF es d (setF m (List.replicate m 0) s)) :=
      Ev.bind h1 (ev_ift rfl (ev_ift (by omega) (ev_ift (by omega) (by rw [Int.toNat_natCast]; exact hi))))
    cases ho : setF m (List.replicate m 0) s with
    | none =>
      rw [ho] at h3 hp
      exact ⟨[], false, h3, Ev.bind h2 (ev_ift rfl (Ev.bind hp (ev_iff (Ev.now _)))), by simp, fun h => by cases h⟩
    | some y =>
      rw [ho] at h3 hp
      obtain ⟨l1, l2⟩ := setF_some m s _ y ho
      have hy : y.length = m := by rw [l1]; simp
      have hsame := fired_same m es d y f4 hdl hy h64
      have hlen := (foldS_get m y es d f4 hdl h64).1
      simp only [outF, hsame] at h3
      refine ⟨es.foldl (stepS y) d, true, h3, Ev.bind h2 (ev_ift rfl (Ev.bind hp (ev_ift rfl (Ev.bind (spec_fire_ev m es d y f4 hdl hy (by omega) hl m) (Ev.now _))))), by omega, fun _ => ⟨hb, by omega, l2⟩⟩

/-- Both tell whether a set may fire. -/
theorem isLegalSet_both (n : Int) (es : List S68) (d s : List Int) (hl : es.length < 4611686018427387904) (hd : d.length < 4611686018427387904) (hs : s.length < 4611686018427387904) :
    ∃ b : Bool, Ev (fun k => impl_IsLegalSet.f k n es d s) b ∧ Ev (fun k => spec_IsLegalSet.f k n es d s) b ∧ True := by
  obtain ⟨r, q, h1, h2, h3, h4⟩ := fireSet_both n es d s hl hd hs
  simp only [impl_IsLegalSet.f, spec_IsLegalSet.f]
  cases q with
  | false => exact ⟨false, Ev.bind h1 (ev_iff (Ev.now _)), Ev.bind h2 (ev_iff (Ev.now _)), trivial⟩
  | true =>
    obtain ⟨_, h5, h6⟩ := h4 rfl
    have i1 : Ev (fun k => impl_IsLegalSet.l0 k r s (s.length : Int) 0) (s.all fun v => !decide (r.getD v.toNat 0 < 0)) := by
      refine ev_listE s (fun k (_ : Unit) i => impl_IsLegalSet.l0 k r s (s.length : Int) i) (fun _ x => x.all fun v => !decide (r.getD v.toNat 0 < 0)) (fun _ _ => True) (fun x hx => ev1 fun k => ?_) (fun x v rest i hlt hdr hx => ?_) () trivial
      · simp only [impl_IsLegalSet.l0]
        rw [if_neg (by omega)]; rfl
      · have hm := h6 v (by have : v ∈ s.drop i := by rw [hdr]; simp
                            exact List.mem_of_mem_drop this)
        by_cases c : r.getD v.toNat 0 < 0
        · refine Or.inl (ev_succ ?_)
          simp only [impl_IsLegalSet.l0, rd_drop hdr, List.all_cons, decide_eq_true c, Bool.not_true, Bool.false_and]
          exact ev_ift (by omega) (ev_ift (by omega) (ev_ift (by omega) (ev_ift (by omega) (ev_ift (by omega) (ev_ift c (Ev.now _))))))
        · refine Or.inr ⟨(), trivial, by simp only [List.all_cons, decide_eq_false c, Bool.not_false, Bool.true_and], fun t ht => ev_succ ?_⟩
          simp only [impl_IsLegalSet.l0, rd_drop hdr, wrap_succ (show i < 4611686018427387904 by omega)]
          exact ev_ift (by omega) (ev_ift (by omega) (ev_ift (by omega) (ev_ift (by omega) (ev_ift (by omega) (ev_ifn c ht)))))
    have i2 : Ev (fun k => spec_IsLegalSet.l0 k r s (s.length : Int) 0) (s.all fun v => !decide (r.getD v.toNat 0 < 0)) := by
      refine ev_listE s (fun k (_ : Unit) i => spec_IsLegalSet.l0 k r s (s.length : Int) i) (fun _ x => x.all fun v => !decide (r.getD v.toNat 0 < 0)) (fun _ _ => True) (fun x hx => ev1 fun k => ?_) (fun x v rest i hlt hdr hx => ?_) () trivial
      · simp only [spec_IsLegalSet.l0]
        rw [if_neg (by omega)]; rfl
      · have hm := h6 v (by have : v ∈ s.drop i := by rw [hdr]; simp
                            exact List.mem_of_mem_drop this)
        by_cases c : r.getD v.toNat 0 < 0
        · refine Or.inl (ev_succ ?_)
          simp only [spec_IsLegalSet.l0, rd_drop hdr, List.all_cons, decide_eq_true c, Bool.not_true, Bool.false_and]
          exact ev_ift (by omega) (ev_ift (by omega) (ev_ift (by omega) (ev_ift (by omega) (ev_ift (by omega) (ev_ift c (Ev.now _))))))
        · refine Or.inr ⟨(), trivial, by simp only [List.all_cons, decide_eq_false c, Bool.not_false, Bool.true_and], fun t ht => ev_succ ?_⟩
          simp only [spec_IsLegalSet.l0, rd_drop hdr, wrap_succ (show i < 4611686018427387904 by omega)]
          exact ev_ift (by omega) (ev_ift (by omega) (ev_ift (by omega) (ev_ift (by omega) (ev_ift (by omega) (ev_ifn c ht)))))
    exact ⟨_, Ev.bind h1 (ev_ift rfl i1), Ev.bind h2 (ev_ift rfl i2), trivial⟩

end Go.Proofs.Ytfpcgccnhpfcnaa.Pure
end
section
set_option linter.unusedVariables false
set_option linter.unusedSimpArgs false
namespace Go.Proofs.Ytfpcgccnhpfcnaa.Pure
open Go.RowKit Go.Proofs.Ytfpcgccnhpfcnaa.P Go.Proofs.YtfpcgccnhpfcnaaW.PrintWords Go.Proofs.YtfpcgccnhpfcnaaW.PrintLast Go.Proofs.YtfpcgccnhpfcnaaW.PrintMore Go.Proofs.Ytfpcgccnhpfcnaa.Base Go.Proofs.Ytfpcgccnhpfcnaa.Loops

/-- The marks m, m + 1, .. -/
def mkI (m : Int) (n : Nat) : List Int := (List.range n).map fun i : Nat => m + (i : Int)

theorem mkI_length (m : Int) (n : Nat) : (mkI m n).length = n := by simp [mkI]

theorem mkI_drop {m : Int} {n i : Nat} (h : i < n) : (mkI m n).drop i = (m + (i : Int)) :: (mkI m n).drop (i + 1) := by
  rw [List.drop_eq_getElem_cons (by rw [mkI_length]; exact h)]
  simp [mkI]

theorem markIntS_ev (m : Int) (h0 : 0 ≤ m) (l : List Int) (hl : m + l.length < 2305843009213693952) : Ev (fun k => laws_markIntS.f k l m) (m + (l.length : Int), mkI m l.length) := by
  have main : ∀ (d k i : Nat) (x : List Int), i + d = l.length → x.length = l.length → x.take i = (mkI m l.length).take i → d < k → laws_markIntS.l0 k x (m + (i : Int)) (i : Int) = some (m + (l.length : Int), mkI m l.length) := by
    intro d
    induction d with
    | zero =>
      intro k i x hi hx ht hk
      obtain ⟨k, rfl⟩ := succ_of_lt hk
      have e : i = l.length := by omega
      subst e
      have ex : x = mkI m l.length := fill_end (by rw [mkI_length]; exact hx) (by rw [mkI_length]; exact ht)
      simp only [laws_markIntS.l0]
      rw [if_neg (by omega), ex]
    | succ d ih =>
      intro k i x hi hx ht hk
      obtain ⟨k, rfl⟩ := succ_of_lt hk
      simp only [laws_markIntS.l0]
      rw [if_pos (by omega), if_pos (by omega), wrap_succ (by omega), show wrap64 (m + (i : Int) + 1) = m + ((i + 1 : Nat) : Int) by unfold wrap64; omega, Int.toNat_natCast]
      exact ih k (i + 1) _ (by omega) (by simpa using hx) (fill_step (by rw [mkI_length]; exact hx) ht (mkI_drop (by omega))) (by omega)
  refine ev_k l.length fun k hk => ?_
  unfold laws_markIntS.f
  have h := main l.length k 0 l (by omega) rfl (by simp) hk
  rw [show m + ((0 : Nat) : Int) = m by omega] at h
  exact h

theorem heldIntS_ev (n : Nat) (hn : n < 2305843009213693952) : Ev (fun k => laws_heldIntS.f k (mkI 1 n) 1) (1 + (n : Int)) := by
  have main : ∀ (d k i : Nat), i + d = n → d < k → laws_heldIntS.l0 k (mkI 1 n) (1 + (i : Int)) (i : Int) = some (1 + (n : Int)) := by
    intro d
    induction d with
    | zero =>
      intro k i hi hk
      obtain ⟨k, rfl⟩ := succ_of_lt hk
      simp only [laws_heldIntS.l0, mkI_length]
      rw [if_neg (by omega), show (i : Int) = n by omega]
    | succ d ih =>
      intro k i hi hk
      obtain ⟨k, rfl⟩ := succ_of_lt hk
      simp only [laws_heldIntS.l0, mkI_length, rd_drop (mkI_drop (show i < n by omega))]
      rw [if_pos (by omega), if_pos (by omega), wrap_succ (by omega), show wrap64 (1 + (i : Int) + 1) = 1 + ((i + 1 : Nat) : Int) by unfold wrap64; omega]
      simp only [if_true]
      exact ih k (i + 1) (by omega) (by omega)
  refine ev_k n fun k hk => ?_
  unfold laws_heldIntS.f
  have h := main n k 0 (by omega) hk
  rw [show (1 : Int) + ((0 : Nat) : Int) = 1 by omega] at h
  exact h

theorem markGraph_ev (n : Int) (l : List S68) (hl : l.length < 2305843009213693952) : ∃ y, Ev (fun k => laws_markGraph.f k n l 1) (2 * (l.length : Int) + 1, y) := by
  have main : ∀ (d i : Nat) (x : List S68), i + d = l.length → x.length = l.length → ∃ y, ∀ k, d < k → laws_markEdgeS.l0 k x (2 * (i : Int) + 1) (i : Int) = some (2 * (l.length : Int) + 1, y) := by
    intro d
    induction d with
    | zero =>
      intro i x hi hx
      refine ⟨x, fun k hk => ?_⟩
      obtain ⟨k, rfl⟩ := succ_of_lt hk
      simp only [laws_markEdgeS.l0]
      rw [if_neg (by omega), show (i : Int) = l.length by omega]
    | succ d ih =>
      intro i x hi hx
      obtain ⟨y, hy⟩ := ih (i + 1) ((x.set i (⟨2 * (i : Int) + 1, (rd_T68 x i).f1⟩ : S68)).set i (⟨(rd_T68 (x.set i (⟨2 * (i : Int) + 1, (rd_T68 x i).f1⟩ : S68)) i).f0, wrap64 (2 * (i : Int) + 1 + 1)⟩ : S68)) (by omega) (by simpa using hx)
      refine ⟨y, fun k hk => ?_⟩
      obtain ⟨k, rfl⟩ := succ_of_lt hk
      simp only [laws_markEdgeS.l0, Option.bind_some]
      rw [if_pos (by omega), if_pos (by omega), wrap_succ (by omega), show wrap64 (wrap64 (2 * (i : Int) + 1 + 1) + 1) = 2 * ((i + 1 : Nat) : Int) + 1 by unfold wrap64; omega, Int.toNat_natCast]
      exact hy k (by omega)
  obtain ⟨y, hy⟩ := main l.length 0 l (by omega) rfl
  refine ⟨y, l.length + 1, fun k hk => ?_⟩
  dsimp only [laws_markGraph.f, laws_markEdgeS.f]
  rw [show (1 : Int) = 2 * ((0 : Nat) : Int) + 1 from rfl, show (0 : Int) = ((0 : Nat) : Int) from rfl, hy k (by omega)]
  rfl

end Go.Proofs.Ytfpcgccnhpfcnaa.Pure
end
section
set_option linter.unusedVariables false
set_option linter.unusedSimpArgs false
namespace Go.Proofs.Ytfpcgccnhpfcnaa.Pure
open Go.RowKit Go.Proofs.Ytfpcgccnhpfcnaa.P Go.Proofs.YtfpcgccnhpfcnaaW.PrintWords Go.Proofs.YtfpcgccnhpfcnaaW.PrintLast Go.Proofs.YtfpcgccnhpfcnaaW.PrintMore Go.Proofs.Ytfpcgccnhpfcnaa.Base Go.Proofs.Ytfpcgccnhpfcnaa.Bits Go.Proofs.Ytfpcgccnhpfcnaa.Loops

theorem FnExactIsLegalSet : StatFnExactIsLegalSet := by
  intro n l d1 d2 ⟨_, hl, _⟩ ⟨_, _⟩ ⟨_, _⟩
  refine Ev.rounds (r := true) ?_
  unfold laws_FnExactIsLegalSet.f
  by_cases hd1 : (d1.length : Int) > 1048576
  · repeat (first
      | exact Ev.now _
      | dsimp only
      | with_reducible refine ev_ift (by first | rfl | omega) ?_
      | with_reducible refine ev_ifn (by omega) ?_
      | with_reducible refine ev_ifb ?_
      | with_reducible refine ev_iff ?_
      | (refine ev_succ ?_; simp only [if_true, laws_FnExactIsLegalSet.j0, laws_FnExactIsLegalSet.j1, laws_FnExactIsLegalSet.j2, laws_FnExactIsLegalSet.j3, laws_FnExactIsLegalSet.j4, laws_FnExactIsLegalSet.j5])
      )
  by_cases hd2 : (d2.length : Int) > 1048576
  · repeat (first
      | exact Ev.now _
      | dsimp only
      | with_reducible refine ev_ift (by first | rfl | omega) ?_
      | with_reducible refine ev_ifn (by omega) ?_
      | with_reducible refine ev_ifb ?_
      | with_reducible refine ev_iff ?_
      | (refine ev_succ ?_; simp only [if_true, laws_FnExactIsLegalSet.j0, laws_FnExactIsLegalSet.j1, laws_FnExactIsLegalSet.j2, laws_FnExactIsLegalSet.j3, laws_FnExactIsLegalSet.j4, laws_FnExactIsLegalSet.j5])
      )
  have hs := szGraph_eq n l hl 1048576 (by omega) (by omega)
  by_cases h : (l.length : Int) ≤ 1048576
  · have es : Ev (fun _ : Nat => laws_szGraph.f n l 1048576) (1048576 - (l.length : Int)) := ev_const fun _ => by rw [hs, if_pos h]
    have tg := toGraph_ev n l (by omega)
    have hm := map_cv_length l
    have hL : (l.map cvE).length < 4611686018427387904 := by omega
    have hLd1 : d1.length < 4611686018427387904 := by omega
    have td1 := toIntS_ev d1 (by omega)
    have ed1 := eqIntS_ev d1 hLd1
    have hLd2 : d2.length < 4611686018427387904 := by omega
    have td2 := toIntS_ev d2 (by omega)
    have ed2 := eqIntS_ev d2 hLd2
    obtain ⟨b, g1, g2, _⟩ := isLegalSet_both n (l.map cvE) d1 d2 hL hLd1 hLd2
    have eg := eqGraph_ev n (l.map cvE) hL
    repeat (first
      | exact Ev.now _
      | dsimp only
      | (with_reducible refine Ev.bind es ?_) | (with_reducible refine Ev.bind tg ?_) | (with_reducible refine Ev.bind td1 ?_) | (with_reducible refine Ev.bind ed1 ?_) | (with_reducible refine Ev.bind td2 ?_) | (with_reducible refine Ev.bind ed2 ?_) | (with_reducible refine Ev.bind g1 ?_) | (with_reducible refine Ev.bind g2 ?_) | (with_reducible refine Ev.bind eg ?_)
      | with_reducible refine ev_ift (by first | rfl | omega) ?_
      | with_reducible refine ev_ifn (by omega) ?_
      | with_reducible refine ev_ifb ?_
      | with_reducible refine ev_iff ?_
      | (refine ev_succ ?_; simp only [if_true, laws_FnExactIsLegalSet.j0, laws_FnExactIsLegalSet.j1, laws_FnExactIsLegalSet.j2, laws_FnExactIsLegalSet.j3, laws_FnExactIsLegalSet.j4, laws_FnExactIsLegalSet.j5])
      )
  · have es : Ev (fun _ : Nat => laws_szGraph.f n l 1048576) (-1) := ev_const fun _ => by rw [hs, if_neg h]
    repeat (first
      | exact Ev.now _
      | dsimp only
      | (with_reducible refine Ev.bind es ?_)
      | with_reducible refine ev_ift (by first | rfl | omega) ?_
      | with_reducible refine ev_ifn (by omega) ?_
      | with_reducible refine ev_ifb ?_
      | with_reducible refine ev_iff ?_
      | (refine ev_succ ?_; simp only [if_true, laws_FnExactIsLegalSet.j0, laws_FnExactIsLegalSet.j1, laws_FnExactIsLegalSet.j2, laws_FnExactIsLegalSet.j3, laws_FnExactIsLegalSet.j4, laws_FnExactIsLegalSet.j5])
      )

end Go.Proofs.Ytfpcgccnhpfcnaa.Pure
end
