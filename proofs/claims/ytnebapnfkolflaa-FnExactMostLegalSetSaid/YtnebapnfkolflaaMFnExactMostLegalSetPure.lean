/- The plain statement of the law FnExactMostLegalSet, lemmas on the functions that it reaches, and its plain proof. -/
import Derived.Test.YtnebapnfkolflaaG85933602d0
import Derived.Test.YtnebapnfkolflaaG84b96e686c
import Derived.Test.YtnebapnfkolflaaG6fdbfe69ae
import Derived.Test.YtnebapnfkolflaaG2c309fcb96
import Derived.Test.YtnebapnfkolflaaBase
import Derived.Test.YtnebapnfkolflaaLoops
import Derived.Test.YtnebapnfkolflaaBits
import Derived.Test.YtnebapnfkolflaaG16bbdf7937
import Derived.Test.YtnebapnfkolflaaGf1ec054a45
import Derived.Test.YtnebapnfkolflaaG4313838eeb
import Derived.Test.YtnebapnfkolflaaGf10e44fb44
section
namespace Go.Proofs.Ytnebapnfkolflaa.Pure
open Go.RowKit Go.Proofs.Ytnebapnfkolflaa.P Go.Proofs.YtnebapnfkolflaaW.PrintWords Go.Proofs.YtnebapnfkolflaaW.PrintLast Go.Proofs.YtnebapnfkolflaaW.PrintMore
def StatFnExactMostLegalSet : Prop := ∀ (a0_0 : Int) (l0_1 : List (S95)) (l1 : List (Int)) (a2 : Int), ((Lit.int .i64 a0_0).wf = true ∧ (l0_1.length ≤ maxLen ∧ ∀ x4 ∈ l0_1, (Lit.int .i64 x4.f0).wf = true ∧ (Lit.int .i64 x4.f1).wf = true)) → (l1.length ≤ maxLen ∧ ∀ x2 ∈ l1, (Lit.int .i64 x2).wf = true) → (Lit.int .i64 a2).wf = true → ∃ k, laws_FnExactMostLegalSet.f k a0_0 l0_1 l1 a2 = some true
end Go.Proofs.Ytnebapnfkolflaa.Pure
end
section
set_option linter.unusedVariables false
set_option linter.unusedSimpArgs false
namespace Go.Proofs.Ytnebapnfkolflaa.Pure
open Go.RowKit Go.Proofs.Ytnebapnfkolflaa.P Go.Proofs.YtnebapnfkolflaaW.PrintWords Go.Proofs.YtnebapnfkolflaaW.PrintLast Go.Proofs.YtnebapnfkolflaaW.PrintMore Go.Proofs.Ytnebapnfkolflaa.Base Go.Proofs.Ytnebapnfkolflaa.Loops

def cvE (e : S95) : S70 := ⟨e.f0, e.f1⟩

theorem rd_IE {l : List S70} {i : Nat} {a : S70} {r : List S70} (h : l.drop i = a :: r) : rd_T70 l (i : Int) = a := by
  unfold rd_T70
  rw [Int.toNat_natCast]
  exact get_drop h _

theorem rd_LE {l : List S95} {i : Nat} {a : S95} {r : List S95} (h : l.drop i = a :: r) : rd_T95 l (i : Int) = a := by
  unfold rd_T95
  rw [Int.toNat_natCast]
  exact get_drop h _

theorem szGraph_eq (a : Int) (l : List S95) (hl : l.length ≤ maxLen) (n : Int) (h0 : 0 ≤ n) (h1 : n ≤ 1048576) : laws_szGraph.f a l n = some (if (l.length : Int) ≤ n then n - l.length else -1) := by
  unfold maxLen at hl
  unfold laws_szGraph.f laws_szEdgeS.f
  have e : wrap64 (n - (l.length : Int)) = n - l.length := by unfold wrap64; omega
  rw [e]
  by_cases h : (l.length : Int) ≤ n
  · rw [if_neg (by omega), if_pos h]
    simp only [Option.bind_some]
    rw [if_neg (by omega)]
  · rw [if_pos (by omega), if_neg h]
    rfl

theorem toEdgeS_l0 (l : List S95) (hl : l.length < 4611686018427387904) : ∀ (d k i : Nat) (x : List S70), i + d = l.length → x.length = l.length → x.take i = (l.map cvE).take i → d < k → laws_toEdgeS.l0 k l x (i : Int) = some (l.map cvE) := by
  intro d
  induction d with
  | zero =>
    intro k i x hi hx ht hk
    obtain ⟨k, rfl⟩ := succ_of_lt hk
    simp only [laws_toEdgeS.l0]
    rw [if_neg (by omega), fill_end (x := x) (y := l.map cvE) (by simpa using hx) (by rw [List.length_map, show l.length = i by omega]; exact ht)]
  | succ d ih =>
    intro k i x hi hx ht hk
    obtain ⟨k, rfl⟩ := succ_of_lt hk
    have hlt : i < l.length := by omega
    have hd := List.drop_eq_getElem_cons hlt
    simp only [laws_toEdgeS.l0, laws_toEdge.f, Option.bind_some]
    rw [if_pos (by omega), if_pos (by omega), if_pos (by omega), wrap_succ (by omega), rd_LE hd, Int.toNat_natCast]
    refine ih k (i + 1) _ (by omega) (by simpa using hx) ?_ (by omega)
    refine fill_step (rest := (l.map cvE).drop (i + 1)) (by simpa using hx) ht ?_
    rw [List.drop_eq_getElem_cons (by simpa using hlt)]
    simp [cvE]

theorem toGraph_ev (a : Int) (l : List S95) (hl : l.length ≤ 1048576) : Ev (fun k => laws_toGraph.f k a l) (a, l.map cvE) := by
  refine ev_k l.length fun k hk => ?_
  unfold laws_toGraph.f laws_toEdgeS.f
  rw [if_pos (by omega), if_pos (by omega), show (0 : Int) = ((0 : Nat) : Int) from rfl, toEdgeS_l0 l (by omega) l.length k 0 _ (by omega) (by simp) (by simp) hk]
  rfl

theorem eqEdgeS_ev (l : List S70) (hl : l.length < 4611686018427387904) : Ev (fun k => laws_eqEdgeS.f k l l) true := by
  simp only [laws_eqEdgeS.f, if_true]
  refine ev_list0 l (fun k (_ : Unit) i => laws_eqEdgeS.l0 k l l i) (fun _ _ => true) (fun _ _ => True) (fun s _ => ev1 fun k => ?_) (fun s a rest i hlt hd _ => Or.inr ⟨(), trivial, rfl, 0, fun k _ => ?_⟩) () trivial
  · simp only [laws_eqEdgeS.l0]
    rw [if_neg (by omega)]
  · simp only [laws_eqEdgeS.l0, laws_eqEdge.f, if_true, Option.bind_some]
    rw [if_pos (by omega), if_pos (by omega), if_pos (by omega), wrap_succ (by omega)]

theorem eqGraph_ev (a : Int) (l : List S70) (hl : l.length < 4611686018427387904) : Ev (fun k => laws_eqGraph.f k a l a l) true := by
  simp only [laws_eqGraph.f, if_true]
  refine Ev.bind (eqEdgeS_ev l hl) ?_
  simp only [if_true]
  exact Ev.now _

theorem map_cv_length (l : List S95) : (l.map cvE).length = l.length := List.length_map ..

end Go.Proofs.Ytnebapnfkolflaa.Pure
end
section
set_option linter.unusedVariables false
set_option linter.unusedSimpArgs false
namespace Go.Proofs.Ytnebapnfkolflaa.Pure
open Go.RowKit Go.Proofs.Ytnebapnfkolflaa.P Go.Proofs.YtnebapnfkolflaaW.PrintWords Go.Proofs.YtnebapnfkolflaaW.PrintLast Go.Proofs.YtnebapnfkolflaaW.PrintMore Go.Proofs.Ytnebapnfkolflaa.Base Go.Proofs.Ytnebapnfkolflaa.Loops

/-- The number of edges between two vertices. -/
def multN (es : List S70) (a b : Int) : Nat := es.countP fun e => decide (e.f0 = mn a b) && decide (e.f1 = mx a b)

def multI (n : Int) (es : List S70) (a b : Int) : Int := if 0 ≤ a ∧ a < n ∧ 0 ≤ b ∧ b < n ∧ a ≠ b then (multN es a b : Int) else 0

theorem mult_loop (es : List S70) (hl : es.length < 4611686018427387904) (a b : Int) (g : Nat → Int → Int → Option Int)
    (hg : ∀ k c i, g (k + 1) c i = if i < (es.length : Int) then (if 0 ≤ i then (if i < (es.length : Int) then (if ((rd_T70 es i).f0) = (mn a b) then (if ((rd_T70 es i).f1) = (mx a b) then (g k (wrap64 (c + 1)) (wrap64 (i + 1))) else (g k c (wrap64 (i + 1)))) else (g k c (wrap64 (i + 1)))) else (none)) else (none)) else (some c)) :
    Ev (fun k => g k 0 0) (multN es a b : Int) := by
  have h := ev_list es (fun k (c : Int) i => g k c i) (fun c r => c + (r.countP fun e => decide (e.f0 = mn a b) && decide (e.f1 = mx a b) : Nat)) (fun c r => 0 ≤ c ∧ c + r.length ≤ es.length) (fun s _ => ev1 fun k => ?_) (fun s e rest i hlt hd hinv => Or.inr ?_) es 0 0 (by omega) rfl (by simp)
  · simpa [multN] using h
  · rw [hg, if_neg (by omega)]; simp
  · simp only [List.length_cons] at hinv
    by_cases hc : e.f0 = mn a b ∧ e.f1 = mx a b
    · refine ⟨s + 1, by omega, ?_, 0, fun k _ => ?_⟩
      · rw [List.countP_cons_of_pos (by simp [hc])]; omega
      · rw [hg, if_pos (by omega), if_pos (by omega), if_pos (by omega), rd_IE hd, if_pos hc.1, if_pos hc.2, wrap_succ (by omega), wrap_id (by omega) (by omega)]
    · refine ⟨s, by omega, ?_, 0, fun k _ => ?_⟩
      · rw [List.countP_cons_of_neg (by simp; intro h1 h2; exact hc ⟨h1, h2⟩)]
      · rw [hg, if_pos (by omega), if_pos (by omega), if_pos (by omega), rd_IE hd, wrap_succ (by omega)]
        by_cases h1 : e.f0 = mn a b
        · rw [if_pos h1, if_neg (fun h2 => hc ⟨h1, h2⟩)]
        · rw [if_neg h1]

theorem spec_mult_ev (n : Int) (es : List S70) (hl : es.length < 4611686018427387904) (a b : Int) : Ev (fun k => spec_Multiplicity.f k n es a b) (multI n es a b) := by
  have hv : ∀ v, spec_l02Vert.f n es v = some (decide (0 ≤ v ∧ v < n)) := by
    intro v
    unfold spec_l02Vert.f
    by_cases h : v ≥ 0
    · rw [if_pos h]; simp; omega
    · rw [if_neg h]; simp; omega
  simp only [spec_Multiplicity.f, hv, Option.bind_some]
  have off : ∀ q : Bool, q = true → Ev (fun k => spec_Multiplicity.j0 k a b 0 q n es) 0 := fun q hq => ev1 fun k => by
    simp only [spec_Multiplicity.j0, hq, if_true]
  by_cases ha : 0 ≤ a ∧ a < n
  · by_cases hb : 0 ≤ b ∧ b < n
    · simp only [ha, hb, and_self, decide_true, if_true]
      by_cases hab : a = b
      · rw [multI, if_neg (by omega)]
        exact off _ (by simp [hab])
      · rw [multI, if_pos ⟨ha.1, ha.2, hb.1, hb.2, hab⟩]
        obtain ⟨K, hK⟩ := mult_loop es hl a b (fun k c i => spec_Multiplicity.l0 k a b c es (es.length : Int) i) (fun k c i => by simp only [spec_Multiplicity.l0])
        refine ⟨K + 1, fun k hk => ?_⟩
        obtain ⟨m, rfl⟩ : ∃ m, k = m + 1 := ⟨k - 1, by omega⟩
        have h2 := hK m (by omega)
        dsimp only at h2 ⊢
        simp only [spec_Multiplicity.j0]
        rw [if_neg (by simp [hab]), h2]
    · simp only [ha, and_self, decide_true, if_true, decide_eq_true_eq, if_neg hb]
      rw [multI, if_neg (by omega)]
      exact off _ rfl
  · simp only [decide_eq_true_eq, if_neg ha]
    rw [multI, if_neg (by omega)]
    exact off _ rfl

theorem impl_mult_ev (n : Int) (es : List S70) (hl : es.length < 4611686018427387904) (a b : Int) : Ev (fun k => impl_Multiplicity.f k n es a b) (multI n es a b) := by
  simp only [impl_Multiplicity.f]
  have off : ∀ q : Bool, q = true → Ev (fun k => impl_Multiplicity.j0 k a b q n es) 0 := fun q hq => ev1 fun k => by
    simp only [impl_Multiplicity.j0, hq, if_true]
  have e1 : mn a b < 0 ↔ (a < 0 ∨ b < 0) := by unfold mn; split <;> omega
  have e2 : mx a b ≥ n ↔ (a ≥ n ∨ b ≥ n) := by unfold mx; split <;> omega
  by_cases h1 : mn a b < 0
  · simp only [if_pos h1]
    rw [multI, if_neg (by omega)]
    exact off _ rfl
  · by_cases h2 : mx a b ≥ n
    · simp only [if_neg h1, if_pos h2]
      rw [multI, if_neg (by omega)]
      exact off _ rfl
    · simp only [if_neg h1, if_neg h2]
      by_cases hab : a = b
      · rw [multI, if_neg (by omega)]
        exact off _ (by simp [hab])
      · rw [multI, if_pos (by omega)]
        obtain ⟨K, hK⟩ := mult_loop es hl a b (fun k c i => impl_Multiplicity.l0 k a b c es (es.length : Int) i) (fun k c i => by simp only [impl_Multiplicity.l0])
        refine ⟨K + 1, fun k hk => ?_⟩
        obtain ⟨m, rfl⟩ : ∃ m, k = m + 1 := ⟨k - 1, by omega⟩
        have h2 := hK m (by omega)
        dsimp only at h2 ⊢
        simp only [impl_Multiplicity.j0]
        rw [if_neg (by simp [hab]), h2]

end Go.Proofs.Ytnebapnfkolflaa.Pure
end
section
set_option linter.unusedVariables false
set_option linter.unusedSimpArgs false
namespace Go.Proofs.Ytnebapnfkolflaa.Pure
open Go.RowKit Go.Proofs.Ytnebapnfkolflaa.P Go.Proofs.YtnebapnfkolflaaW.PrintWords Go.Proofs.YtnebapnfkolflaaW.PrintLast Go.Proofs.YtnebapnfkolflaaW.PrintMore Go.Proofs.Ytnebapnfkolflaa.Base Go.Proofs.Ytnebapnfkolflaa.Loops

/-- What EdgesOk tells. -/
def edgesB (n : Int) (es : List S70) : Bool := decide (1 ≤ n) && decide (n ≤ 6) && decide (es.length ≤ 12) && es.all fun e => decide (0 ≤ e.f0) && decide (e.f0 < e.f1) && decide (e.f1 < n)

theorem impl_edgesOk_ev (n : Int) (es : List S70) (hl : es.length < 4611686018427387904) : Ev (fun k => impl_EdgesOk.f k n es) (edgesB n es) := by
  have hw : impl_within.f n 1 6 = some (decide (1 ≤ n) && decide (n ≤ 6)) := by
    unfold impl_within.f
    by_cases h : n ≥ 1
    · rw [if_pos h]; simp [h]
    · rw [if_neg h]; simp [h]
  simp only [impl_EdgesOk.f, hw, Option.bind_some]
  by_cases hn : 1 ≤ n ∧ n ≤ 6
  · by_cases h12 : es.length ≤ 12
    · have loop : Ev (fun k => impl_EdgesOk.l0 k es (es.length : Int) 0 n es) (es.all fun e => decide (0 ≤ e.f0) && decide (e.f0 < e.f1) && decide (e.f1 < n)) := by
        refine ev_listE es (fun k (_ : Unit) i => impl_EdgesOk.l0 k es (es.length : Int) i n es) (fun _ r => r.all fun e => decide (0 ≤ e.f0) && decide (e.f0 < e.f1) && decide (e.f1 < n)) (fun _ _ => True)
          (fun s _ => ev1 fun k => ?_) (fun s a rest i hlt hd _ => ?_) () trivial
        · simp only [impl_EdgesOk.l0]
          rw [if_neg (by omega)]; rfl
        · have bad : a.f0 < 0 ∨ a.f0 ≥ a.f1 ∨ a.f1 ≥ n → ((a :: rest).all fun e => decide (0 ≤ e.f0) && decide (e.f0 < e.f1) && decide (e.f1 < n)) = false := by
            intro h; simp only [List.all_cons, Bool.and_eq_false_iff, decide_eq_false_iff_not]; omega
          have stop : Ev (fun k => impl_EdgesOk.j2 k es (es.length : Int) (i : Int) true n es) false := ev1 fun k => by simp only [impl_EdgesOk.j2, if_true]
          by_cases h1 : a.f0 < 0
          · refine Or.inl (ev_succ ?_)
            simp only [impl_EdgesOk.l0, rd_IE hd]
            rw [bad (by omega)]
            exact ev_ift (by omega) (ev_ift (by omega) (ev_ift (by omega) (ev_ift h1 stop)))
          by_cases h2 : a.f0 ≥ a.f1
          · refine Or.inl (ev_succ ?_)
            simp only [impl_EdgesOk.l0, rd_IE hd]
            rw [bad (by omega)]
            exact ev_ift (by omega) (ev_ift (by omega) (ev_ift (by omega) (ev_ifn h1 (ev_ift h2 stop))))
          by_cases h3 : a.f1 ≥ n
          · refine Or.inl (ev_succ ?_)
            simp only [impl_EdgesOk.l0, rd_IE hd]
            rw [bad (by omega), decide_eq_true h3]
            exact ev_ift (by omega) (ev_ift (by omega) (ev_ift (by omega) (ev_ifn h1 (ev_ifn h2 stop))))
          refine Or.inr ⟨(), trivial, ?_, fun r hr => ev_succ ?_⟩
          · simp; omega
          · simp only [impl_EdgesOk.l0, rd_IE hd, decide_eq_false h3]
            refine ev_ift (by omega) (ev_ift (by omega) (ev_ift (by omega) (ev_ifn h1 (ev_ifn h2 (ev_succ ?_)))))
            simp only [impl_EdgesOk.j2, Bool.false_eq_true, if_false, wrap_succ (show i < 4611686018427387904 by omega)]
            exact hr
      obtain ⟨K, hK⟩ := loop
      dsimp only at hK
      refine ⟨K + 1, fun k hk => ?_⟩
      obtain ⟨m, rfl⟩ : ∃ m, k = m + 1 := ⟨k - 1, by omega⟩
      have := hK m (by omega)
      simp only [hn.1, hn.2, decide_true, Bool.and_self, if_true, impl_EdgesOk.j0]
      rw [if_neg (by simp; omega), this]
      simp [edgesB, hn, h12]
    · refine ev1 fun k => ?_
      simp only [hn.1, hn.2, decide_true, Bool.and_self, if_true, impl_EdgesOk.j0]
      rw [if_pos (by simp; omega)]
      simp [edgesB, h12]
  · refine ev1 fun k => ?_
    rw [if_neg (by simp; omega)]
    simp only [impl_EdgesOk.j0, if_true]
    simp [edgesB]
    intro a b
    exact absurd ⟨a, b⟩ hn

theorem spec_edgesOk_ev (n : Int) (es : List S70) (hl : es.length < 4611686018427387904) : Ev (fun k => spec_EdgesOk.f k n es) (edgesB n es) := by
  have hw : ∀ a b c : Int, spec_l01In.f a b c = some (decide (b ≤ a) && decide (a ≤ c)) := by
    intro a b c
    unfold spec_l01In.f
    by_cases h : a ≥ b
    · rw [if_pos h]; simp [h]
    · rw [if_neg h]; simp [h]
  simp only [spec_EdgesOk.f, hw, Option.bind_some]
  by_cases hn : 1 ≤ n ∧ n ≤ 6
  · have hn1 : wrap64 (n - 1) = n - 1 := by unfold wrap64; omega
    by_cases h12 : es.length ≤ 12
    · have loop : Ev (fun k => spec_EdgesOk.l0 k es (es.length : Int) 0 n es) (es.all fun e => decide (0 ≤ e.f0) && decide (e.f0 < e.f1) && decide (e.f1 < n)) := by
        refine ev_list0 es (fun k (_ : Unit) i => spec_EdgesOk.l0 k es (es.length : Int) i n es) (fun _ r => r.all fun e => decide (0 ≤ e.f0) && decide (e.f0 < e.f1) && decide (e.f1 < n)) (fun _ _ => True)
          (fun s _ => ev1 fun k => ?_) (fun s a rest i hlt hd _ => ?_) () trivial
        · simp only [spec_EdgesOk.l0]
          rw [if_neg (by omega)]; rfl
        · by_cases h1 : 0 ≤ a.f0 ∧ a.f0 ≤ n - 1
          · have e1 : wrap64 (a.f0 + 1) = a.f0 + 1 := by unfold wrap64; omega
            by_cases h2 : a.f0 + 1 ≤ a.f1 ∧ a.f1 ≤ n - 1
            · refine Or.inr ⟨(), trivial, ?_, 0, fun k _ => ?_⟩
              · simp; omega
              · simp only [spec_EdgesOk.l0, rd_IE hd, hw, hn1, e1, Option.bind_some]
                rw [if_pos (by omega), if_pos (by omega), if_pos (by omega), if_pos (by simp; omega), if_pos (by simp; omega), wrap_succ (by omega)]
            · refine Or.inl (ev1 fun k => ?_)
              simp only [spec_EdgesOk.l0, rd_IE hd, hw, hn1, e1, Option.bind_some]
              rw [if_pos (by omega), if_pos (by omega), if_pos (by omega), if_pos (by simp; omega), if_neg (by simp; omega)]
              simp; omega
          · refine Or.inl (ev1 fun k => ?_)
            simp only [spec_EdgesOk.l0, rd_IE hd, hw, hn1, Option.bind_some]
            rw [if_pos (by omega), if_pos (by omega), if_pos (by omega), if_neg (by simp; omega)]
            simp; omega
      obtain ⟨K, hK⟩ := loop
      dsimp only at hK
      refine ⟨K + 1, fun k hk => ?_⟩
      obtain ⟨m, rfl⟩ : ∃ m, k = m + 1 := ⟨k - 1, by omega⟩
      have := hK m (by omega)
      simp only [hn.1, hn.2, decide_true, Bool.and_self, if_true, spec_EdgesOk.j0]
      rw [if_neg (by simp; omega), this]
      simp [edgesB, hn, h12]
    · refine ev1 fun k => ?_
      simp only [hn.1, hn.2, decide_true, Bool.and_self, if_true, spec_EdgesOk.j0]
      rw [if_pos (by simp; omega)]
      simp [edgesB, h12]
  · refine ev1 fun k => ?_
    rw [if_neg (by simp; omega)]
    simp only [spec_EdgesOk.j0, if_true]
    simp [edgesB]
    intro a b
    exact absurd ⟨a, b⟩ hn

end Go.Proofs.Ytnebapnfkolflaa.Pure
end
section
set_option linter.unusedVariables false
set_option linter.unusedSimpArgs false
namespace Go.Proofs.Ytnebapnfkolflaa.Pure
open Go.RowKit Go.Proofs.Ytnebapnfkolflaa.P Go.Proofs.YtnebapnfkolflaaW.PrintWords Go.Proofs.YtnebapnfkolflaaW.PrintLast Go.Proofs.YtnebapnfkolflaaW.PrintMore Go.Proofs.Ytnebapnfkolflaa.Base Go.Proofs.Ytnebapnfkolflaa.Bits Go.Proofs.Ytnebapnfkolflaa.Loops

/-- A list of edges in order. -/
def SortedE (es : List S70) : Prop := ∀ i, i + 1 < es.length → ¬ ((es.getD (i + 1) z70).f0 < (es.getD i z70).f0 ∨ ((es.getD (i + 1) z70).f0 = (es.getD i z70).f0 ∧ (es.getD (i + 1) z70).f1 < (es.getD i z70).f1))

def ConnE (n : Int) (es : List S70) : Prop := ∀ P : Int → Prop, P 0 → (∀ e ∈ es, P e.f0 ↔ P e.f1) → ∀ v, 0 ≤ v → v < n → P v

/-- A valid graph. -/
def GraphP (n : Int) (es : List S70) : Prop := edgesB n es = true ∧ SortedE es ∧ ConnE n es

theorem rdE_nat (es : List S70) (i : Nat) : rd_T70 es (i : Int) = es.getD i z70 := by unfold rd_T70; rw [Int.toNat_natCast]

theorem edgesB_facts {n : Int} {es : List S70} (h : edgesB n es = true) : 1 ≤ n ∧ n ≤ 6 ∧ es.length ≤ 12 ∧ ∀ e ∈ es, 0 ≤ e.f0 ∧ e.f0 < e.f1 ∧ e.f1 < n := by
  simp only [edgesB, Bool.and_eq_true, decide_eq_true_eq, List.all_eq_true] at h
  exact ⟨h.1.1.1, h.1.1.2, h.1.2, fun e he => ⟨(h.2 e he).1.1, (h.2 e he).1.2, (h.2 e he).2⟩⟩

theorem compare_eq (a0 a1 b0 b1 : Int) : ∃ c, impl_compareEdges.f a0 a1 b0 b1 = some c ∧ (c < 0 ↔ a0 < b0 ∨ (a0 = b0 ∧ a1 < b1)) := by
  have hc : ∀ x y : Int, cmp_Compare_int.f x y = some (if x < y then -1 else if x > y then 1 else 0) := by
    intro x y
    unfold cmp_Compare_int.f cmp_isNaN_int.f
    simp only [Option.bind_some, bne_self_eq_false, Bool.false_eq_true, if_false]
    by_cases h1 : x < y
    · rw [if_pos h1, if_pos h1]
    · rw [if_neg h1, if_neg h1]
      by_cases h2 : x > y
      · rw [if_pos h2, if_pos h2]
      · rw [if_neg h2, if_neg h2]
  unfold impl_compareEdges.f
  simp only [hc, Option.bind_some]
  by_cases h1 : a0 < b0
  · rw [if_pos h1, if_neg (by decide)]
    exact ⟨_, rfl, by omega⟩
  · by_cases h2 : a0 > b0
    · rw [if_neg h1, if_pos h2, if_neg (by decide)]
      exact ⟨_, rfl, by omega⟩
    · rw [if_neg h1, if_neg h2, if_pos rfl]
      refine ⟨_, rfl, ?_⟩
      by_cases h3 : a1 < b1
      · rw [if_pos h3]; omega
      · rw [if_neg h3]
        split <;> omega

theorem impl_sorted_ev (es : List S70) (hl : es.length < 4611686018427387904) : ∃ b : Bool, Ev (fun k => slices_IsSortedFunc_Edge.f k es) b ∧ (b = true ↔ SortedE es) := by
  have main : ∀ i : Nat, i < es.length → ∃ b : Bool, Ev (fun k => slices_IsSortedFunc_Edge.l0 k es (i : Int)) b ∧ (b = true ↔ ∀ j, j < i → ¬ ((es.getD (j + 1) z70).f0 < (es.getD j z70).f0 ∨ ((es.getD (j + 1) z70).f0 = (es.getD j z70).f0 ∧ (es.getD (j + 1) z70).f1 < (es.getD j z70).f1))) := by
    intro i
    induction i with
    | zero =>
      intro _
      refine ⟨true, ev1 fun k => ?_, by simp⟩
      simp only [slices_IsSortedFunc_Edge.l0]
      rw [if_neg (by omega)]
    | succ i ih =>
      intro hi
      obtain ⟨b, ⟨K, hb⟩, hiff⟩ := ih (by omega)
      have ew : wrap64 (((i + 1 : Nat) : Int) - 1) = (i : Int) := by unfold wrap64; omega
      obtain ⟨c, hc, hneg⟩ := compare_eq (es.getD (i + 1) z70).f0 (es.getD (i + 1) z70).f1 (es.getD i z70).f0 (es.getD i z70).f1
      by_cases h : c < 0
      · refine ⟨false, ev1 fun k => ?_, ?_⟩
        · simp only [slices_IsSortedFunc_Edge.l0, ew, rdE_nat, hc, Option.bind_some]
          rw [if_pos (by omega), if_pos (by omega), if_pos (by omega), if_pos (by omega), if_pos (by omega), if_pos h]
        · simp only [Bool.false_eq_true, false_iff]
          intro hall
          exact hall i (by omega) (hneg.1 h)
      · refine ⟨b, ⟨K + 1, fun k hk => ?_⟩, ?_⟩
        · obtain ⟨m, rfl⟩ : ∃ m, k = m + 1 := ⟨k - 1, by omega⟩
          have h2 := hb m (by omega)
          dsimp only at h2 ⊢
          simp only [slices_IsSortedFunc_Edge.l0, ew, rdE_nat, hc, Option.bind_some]
          rw [if_pos (by omega), if_pos (by omega), if_pos (by omega), if_pos (by omega), if_pos (by omega), if_neg h, h2]
        · rw [hiff]
          constructor
          · intro hall j hj
            by_cases e : j = i
            · subst e; exact fun hh => h (hneg.2 hh)
            · exact hall j (by omega)
          · exact fun hall j hj => hall j (by omega)
  simp only [slices_IsSortedFunc_Edge.f]
  by_cases h0 : es.length = 0
  · refine ⟨true, ev1 fun k => ?_, ?_⟩
    · simp only [slices_IsSortedFunc_Edge.l0]
      rw [if_neg (by unfold wrap64; omega)]
    · simp only [true_iff]
      intro i hi
      omega
  · obtain ⟨b, hb, hiff⟩ := main (es.length - 1) (by omega)
    have ew : wrap64 ((es.length : Int) - 1) = ((es.length - 1 : Nat) : Int) := by unfold wrap64; omega
    rw [ew]
    refine ⟨b, hb, ?_⟩
    rw [hiff]
    exact ⟨fun h i hi => h i (by omega), fun h i hi => h i (by omega)⟩

def toN (e : S70) : Nat × Nat := (e.f0.toNat, e.f1.toNat)

theorem conn_l1 (n : Nat) (es : List S70) (hn : n ≤ 6) (he : ∀ e ∈ es, 0 ≤ e.f0 ∧ e.f0 < e.f1 ∧ e.f1 < n) (x8 x9 : Int) (r : Bool) (hl : es.length < 4611686018427387904) :
    ∀ (rest : List S70) (i : Nat) (M : Nat), i ≤ es.length → es.drop i = rest → M < 2 ^ n → Ev (fun k => impl_connected.l0 k n es ((rnd (rest.map toN) M : Nat) : Int) x8 (wrap64 (x9 + 1))) r →
      Ev (fun k => impl_connected.l1 k n es (M : Int) x8 x9 es (es.length : Int) (i : Int)) r := by
  intro rest
  induction rest with
  | nil =>
    intro i M hi hd hM h
    have := drop_nil hd
    obtain ⟨K, hK⟩ := h
    refine ⟨K + 1, fun k hk => ?_⟩
    obtain ⟨m, rfl⟩ : ∃ m, k = m + 1 := ⟨k - 1, by omega⟩
    simp only [impl_connected.l1]
    rw [if_neg (by omega)]
    exact hK m (by omega)
  | cons e rest ih =>
    intro i M hi hd hM h
    have hlt := drop_lt hd
    have hmem : e ∈ es := by
      have : e ∈ es.drop i := by rw [hd]; simp
      exact List.mem_of_mem_drop this
    obtain ⟨h0, h1, h2⟩ := he e hmem
    obtain ⟨a, ha⟩ : ∃ a : Nat, e.f0 = a := ⟨e.f0.toNat, by omega⟩
    obtain ⟨b, hb⟩ : ∃ b : Nat, e.f1 = b := ⟨e.f1.toNat, by omega⟩
    have hte : toN e = (a, b) := by simp [toN, ha, hb]
    have hM62 : M < 2 ^ 62 := Nat.lt_of_lt_of_le hM (Nat.pow_le_pow_right (by decide) (by omega))
    have hlt' := upd_lt M (a, b) n hM (by show a < n; omega) (by show b < n; omega)
    rw [List.map_cons, hte] at h
    obtain ⟨K, hK⟩ := ih (i + 1) (upd M (a, b)) (by omega) (drop_next hd) hlt' h
    refine ⟨K + 1, fun k hk => ?_⟩
    obtain ⟨m, rfl⟩ : ∃ m, k = m + 1 := ⟨k - 1, by omega⟩
    have h3 := hK m (by omega)
    dsimp only at h3 ⊢
    simp only [impl_connected.l1, rd_IE hd, ha, hb, bit_of M a hM62 (by omega), bit_of M b hM62 (by omega), or_two M a b hM62 (by omega) (by omega)]
    rw [if_pos (by omega), if_pos (by omega), if_pos (by omega), if_pos (by omega), wrap_succ (by omega)]
    unfold upd at h3
    by_cases ta : M.testBit a = true
    · rw [if_pos (by simp [ta]), if_pos (by omega)]
      rw [if_pos (by simp [ta])] at h3
      exact h3
    · by_cases tb : M.testBit b = true
      · rw [if_neg (by simp [ta]), if_pos (by omega), if_pos (by simp [tb])]
        rw [if_pos (by simp [tb])] at h3
        exact h3
      · rw [if_neg (by simp [ta]), if_pos (by omega), if_neg (by simp [tb])]
        rw [if_neg (by simp [ta, tb])] at h3
        exact h3

theorem toN_lt {n : Nat} {es : List S70} (he : ∀ e ∈ es, 0 ≤ e.f0 ∧ e.f0 < e.f1 ∧ e.f1 < n) : ∀ x ∈ es.map toN, x.1 < n ∧ x.2 < n := by
  intro x hx
  obtain ⟨e, hm, rfl⟩ := List.mem_map.1 hx
  have := he e hm
  simp only [toN]
  omega

theorem impl_connected_ev (n : Nat) (es : List S70) (hn0 : 0 < n) (hn : n ≤ 6) (he : ∀ e ∈ es, 0 ≤ e.f0 ∧ e.f0 < e.f1 ∧ e.f1 < n) (hl : es.length < 4611686018427387904) :
    Ev (fun k => impl_connected.f k n es) (decide (iter (es.map toN) n 1 = 2 ^ n - 1)) := by
  have main : ∀ (d : Nat) (x9 M : Nat), x9 + d = n → M < 2 ^ n → Ev (fun k => impl_connected.l0 k n es (M : Int) n (x9 : Int)) (decide (iter (es.map toN) d M = 2 ^ n - 1)) := by
    intro d
    induction d with
    | zero =>
      intro x9 M hx hM
      refine ev1 fun k => ?_
      simp only [impl_connected.l0, iter]
      rw [if_neg (by omega), if_pos (by omega), shl_nat n (by omega)]
      have : wrap64 (((2 ^ n : Nat) : Int) - 1) = ((2 ^ n - 1 : Nat) : Int) := by
        have h1 : 2 ^ n ≤ 2 ^ 6 := Nat.pow_le_pow_right (by decide) hn
        have h2 : 0 < 2 ^ n := Nat.pow_pos (by decide)
        unfold wrap64
        omega
      rw [this]
      have e : ((M : Int) == ((2 ^ n - 1 : Nat) : Int)) = decide (M = 2 ^ n - 1) := by
        generalize 2 ^ n - 1 = q
        rw [Bool.eq_iff_iff, beq_iff_eq, decide_eq_true_eq]
        omega
      rw [e]
      rfl
    | succ d ih =>
      intro x9 M hx hM
      have h1 := ih (x9 + 1) (rnd (es.map toN) M) (by omega) (rnd_lt _ n M hM (toN_lt he))
      have h2 := conn_l1 n es hn he n x9 _ hl es 0 M (by omega) rfl hM (by rw [wrap_succ (by omega)]; exact h1)
      obtain ⟨K, hK⟩ := h2
      refine ⟨K + 1, fun k hk => ?_⟩
      obtain ⟨m, rfl⟩ : ∃ m, k = m + 1 := ⟨k - 1, by omega⟩
      have h3 := hK m (by omega)
      dsimp only [iter] at h3 ⊢
      simp only [impl_connected.l0]
      rw [if_pos (by omega)]
      exact h3
  exact main n 0 1 (by omega) (Nat.one_lt_two_pow (by omega))

theorem full_iff (n : Nat) (es : List S70) (hn0 : 0 < n) (he : ∀ e ∈ es, 0 ≤ e.f0 ∧ e.f0 < e.f1 ∧ e.f1 < n) : iter (es.map toN) n 1 = 2 ^ n - 1 ↔ ConnE n es := by
  rw [iter_full (es.map toN) n hn0 (toN_lt he)]
  constructor
  · intro h P h0 hP v hv0 hv
    obtain ⟨u, rfl⟩ : ∃ u : Nat, v = u := ⟨v.toNat, by omega⟩
    refine h (fun u => P u) h0 (fun x hx => ?_) u (by omega)
    obtain ⟨e, hm, rfl⟩ := List.mem_map.1 hx
    have hb := he e hm
    simp only [toN]
    rw [show ((e.f0.toNat : Nat) : Int) = e.f0 by omega, show ((e.f1.toNat : Nat) : Int) = e.f1 by omega]
    exact hP e hm
  · intro h P h0 hP v hv
    have := h (fun u => P u.toNat) h0 (fun e hm => hP (toN e) (List.mem_map.2 ⟨e, hm, rfl⟩)) v (by omega) (by omega)
    simpa using this

theorem impl_graphOk_iff (n : Int) (es : List S70) (hl : es.length < 4611686018427387904) : ∃ b : Bool, Ev (fun k => impl_GraphOk.f k n es) b ∧ (b = true ↔ GraphP n es) := by
  have h1 := impl_edgesOk_ev n es hl
  simp only [impl_GraphOk.f]
  by_cases hb : edgesB n es = true
  · obtain ⟨f1, f2, f3, f4⟩ := edgesB_facts hb
    obtain ⟨m, rfl⟩ : ∃ m : Nat, n = m := ⟨n.toNat, by omega⟩
    obtain ⟨b, h2, hs⟩ := impl_sorted_ev es hl
    rw [hb] at h1
    cases b with
    | false =>
      refine ⟨false, Ev.bind h1 ?_, ?_⟩
      · simp only [if_true]
        refine Ev.bind h2 ?_
        simp only [Bool.false_eq_true, if_false]
        exact Ev.now _
      · simp only [Bool.false_eq_true, false_iff] at hs ⊢
        exact fun h => hs h.2.1
    | true =>
      refine ⟨decide (iter (es.map toN) m 1 = 2 ^ m - 1), Ev.bind h1 ?_, ?_⟩
      · simp only [if_true]
        refine Ev.bind h2 ?_
        simp only [if_true]
        refine Ev.bind (impl_connected_ev m es (by omega) (by omega) f4 hl) ?_
        exact Ev.now _
      · rw [decide_eq_true_eq, full_iff m es (by omega) f4]
        simp only [true_iff] at hs
        exact ⟨fun h => ⟨hb, hs, h⟩, fun h => h.2.2⟩
  · refine ⟨false, Ev.bind h1 ?_, ?_⟩
    · simp only [hb]
      exact Ev.now _
    · simp only [Bool.false_eq_true, false_iff]
      exact fun h => hb h.1

end Go.Proofs.Ytnebapnfkolflaa.Pure
end
section
set_option linter.unusedVariables false
set_option linter.unusedSimpArgs false
namespace Go.Proofs.Ytnebapnfkolflaa.Pure
open Go.RowKit Go.Proofs.Ytnebapnfkolflaa.P Go.Proofs.YtnebapnfkolflaaW.PrintWords Go.Proofs.YtnebapnfkolflaaW.PrintLast Go.Proofs.YtnebapnfkolflaaW.PrintMore Go.Proofs.Ytnebapnfkolflaa.Base Go.Proofs.Ytnebapnfkolflaa.Bits Go.Proofs.Ytnebapnfkolflaa.Loops

theorem has_ev (l : List Int) (v : Int) (hl : l.length < 4611686018427387904) : Ev (fun k => spec_l02Has.f k l v) (decide (v ∈ l)) := by
  simp only [spec_l02Has.f]
  refine ev_list0 l (fun k (_ : Unit) i => spec_l02Has.l0 k v l (l.length : Int) i) (fun _ r => decide (v ∈ r)) (fun _ _ => True) (fun s _ => ev1 fun k => ?_) (fun s a rest i hlt hd _ => ?_) () trivial
  · simp only [spec_l02Has.l0]
    rw [if_neg (by omega)]; simp
  · by_cases h : a = v
    · refine Or.inl (ev1 fun k => ?_)
      simp only [spec_l02Has.l0, rd_drop hd]
      rw [if_pos (by omega), if_pos (by omega), if_pos (by omega), if_pos h]
      simp [h]
    · refine Or.inr ⟨(), trivial, ?_, 0, fun k _ => ?_⟩
      · simp [Ne.symm h]
      · simp only [spec_l02Has.l0, rd_drop hd]
        rw [if_pos (by omega), if_pos (by omega), if_pos (by omega), if_neg h, wrap_succ (by omega)]

/-- What the search keeps: no vertex twice, all of them vertices, none that a closed set could lack. -/
def RInv (n : Nat) (es : List S70) (q : List Int) : Prop :=
  q.Nodup ∧ (∀ v ∈ q, 0 ≤ v ∧ v < n) ∧ (0 : Int) ∈ q ∧ ∀ P : Int → Prop, P 0 → (∀ e ∈ es, P e.f0 ↔ P e.f1) → ∀ v ∈ q, P v

theorem rinv_len {n : Nat} {es : List S70} {q : List Int} (h : RInv n es q) : q.length ≤ n := by
  have := List.Nodup.length_le_of_subset h.1 (l₂ := (List.range n).map fun i : Nat => (i : Int)) (fun v hv => by
    have hb := h.2.1 v hv
    exact List.mem_map.2 ⟨v.toNat, by simp; omega, by omega⟩)
  simpa using this

theorem rinv_add {n : Nat} {es : List S70} {q : List Int} (h : RInv n es q) {u v : Int} {e : S70} (he : e ∈ es) (hb : 0 ≤ e.f0 ∧ e.f0 < e.f1 ∧ e.f1 < n) (hu : u ∈ q) (huv : (u = e.f0 ∧ v = e.f1) ∨ (u = e.f1 ∧ v = e.f0)) (hv : v ∉ q) : RInv n es (q ++ [v]) := by
  refine ⟨?_, fun x hx => ?_, by simp [h.2.2.1], fun P h0 hP x hx => ?_⟩
  · rw [List.nodup_append]
    refine ⟨h.1, by simp, fun a ha b hb' => ?_⟩
    simp at hb'
    subst hb'
    intro e'
    subst e'
    exact hv ha
  · rcases List.mem_append.1 hx with hx | hx
    · exact h.2.1 x hx
    · simp at hx
      omega
  · rcases List.mem_append.1 hx with hx | hx
    · exact h.2.2.2 P h0 hP x hx
    · simp at hx
      subst hx
      have := h.2.2.2 P h0 hP u hu
      rcases huv with ⟨h1, h2⟩ | ⟨h1, h2⟩
      · rw [h2]; exact (hP e he).1 (h1 ▸ this)
      · rw [h2]; exact (hP e he).2 (h1 ▸ this)

theorem rd_get {q : List Int} {i : Nat} (h : i < q.length) : rd q (i : Int) = q[i] := rd_nat q i h

theorem get_mem_append {q : List Int} {i : Nat} (h : i < q.length) (v : Int) : rd (q ++ [v]) (i : Int) = rd q (i : Int) := by
  rw [rd_nat q i h, rd_nat (q ++ [v]) i (by simp; omega), List.getElem_append_left h]

/-- One edge of the inner loop. -/
theorem reach_step (n : Nat) (es : List S70) (q : List Int) (pos i : Nat) (e : S70) (rest : List S70) (hd : es.drop i = e :: rest) (hne : e.f0 ≠ e.f1) (hpos : pos < q.length) (hq : q.length ≤ 6) (hl : es.length < 4611686018427387904) (r : List Int)
    (h : Ev (fun k => spec_l02Reach.l1 k (if e.f0 = rd q pos ∧ e.f1 ∉ q then q ++ [e.f1] else if e.f1 = rd q pos ∧ e.f0 ∉ q then q ++ [e.f0] else q) (pos : Int) es (es.length : Int) ((i + 1 : Nat) : Int) n es) r) :
    Ev (fun k => spec_l02Reach.l1 k q (pos : Int) es (es.length : Int) (i : Int) n es) r := by
  have hlt := drop_lt hd
  have b1 := has_ev q e.f1 (by omega)
  have tail : ∀ q' : List Int, pos < q'.length → q'.length ≤ 7 →
      Ev (fun k => spec_l02Reach.l1 k (if e.f1 = rd q' pos ∧ e.f0 ∉ q' then q' ++ [e.f0] else q') (pos : Int) es (es.length : Int) ((i + 1 : Nat) : Int) n es) r →
      Ev (fun k => spec_l02Reach.j3 k q' (pos : Int) es (es.length : Int) (i : Int) n es e.f0 e.f1) r := by
    intro q' hp' hq' h'
    have b2 := has_ev q' e.f0 (by omega)
    refine ev_succ ?_
    simp only [spec_l02Reach.j3, wrap_succ (show i < 4611686018427387904 by omega)]
    refine ev_ift (by omega) (ev_ift (by omega) ?_)
    by_cases c1 : e.f1 = rd q' pos
    · refine ev_ift c1 (Ev.bind b2 ?_)
      by_cases m0 : e.f0 ∈ q'
      · rw [if_neg (fun hh => hh.2 m0)] at h'
        exact ev_ift (by simp [m0]) h'
      · rw [if_pos ⟨c1, m0⟩] at h'
        exact ev_ifn (by simp [m0]) (ev_ift (by omega) h')
    · rw [if_neg (fun hh => c1 hh.1)] at h'
      exact ev_ifn c1 h'
  refine ev_succ ?_
  simp only [spec_l02Reach.l1, rd_IE hd]
  refine ev_ift (by omega) (ev_ift (by omega) (ev_ift (by omega) (ev_ift (by omega) (ev_ift (by omega) ?_))))
  by_cases c0 : e.f0 = rd q pos
  · have c1 : ¬ e.f1 = rd q pos := fun hh => hne (c0.trans hh.symm)
    refine ev_ift c0 (Ev.bind b1 (ev_succ ?_))
    simp only [spec_l02Reach.j2]
    by_cases m1 : e.f1 ∈ q
    · rw [if_neg (fun hh => hh.2 m1), if_neg (fun hh => c1 hh.1)] at h
      refine ev_ifn (by simp [m1]) (tail q hpos (by omega) ?_)
      rw [if_neg (fun hh => c1 hh.1)]
      exact h
    · rw [if_pos ⟨c0, m1⟩] at h
      refine ev_ift (by simp [m1]) (ev_ift (by omega) (tail (q ++ [e.f1]) (by simp; omega) (by simp; omega) ?_))
      rw [get_mem_append hpos, if_neg (fun hh => c1 hh.1)]
      exact h
  · refine ev_ifn c0 (ev_succ ?_)
    simp only [spec_l02Reach.j2]
    rw [if_neg (fun hh => c0 hh.1)] at h
    exact ev_ifn (by simp) (tail q hpos (by omega) h)

/-- All that lies before place pos has its neighbours in the list. -/
def Done (es : List S70) (q : List Int) (pos : Nat) : Prop := ∀ j, j < pos → ∀ e ∈ es, (e.f0 = rd q j → e.f1 ∈ q) ∧ (e.f1 = rd q j → e.f0 ∈ q)

theorem done_add {es : List S70} {q : List Int} {pos : Nat} (h : Done es q pos) (hp : pos ≤ q.length) (v : Int) : Done es (q ++ [v]) pos := by
  intro j hj e he
  rw [get_mem_append (by omega)]
  have := h j hj e he
  exact ⟨fun hh => List.mem_append_left _ (this.1 hh), fun hh => List.mem_append_left _ (this.2 hh)⟩

theorem reach_inner (n : Nat) (hn : n ≤ 6) (es : List S70) (he : ∀ e ∈ es, 0 ≤ e.f0 ∧ e.f0 < e.f1 ∧ e.f1 < n) (hl : es.length < 4611686018427387904) (pos : Nat)
    (next : ∀ q, RInv n es q → Done es q (pos + 1) → pos < q.length → ∃ r, Ev (fun k => spec_l02Reach.l0 k q ((pos + 1 : Nat) : Int) n es) r ∧ RInv n es r ∧ Done es r r.length) :
    ∀ (rest : List S70) (i : Nat) (q : List Int), i ≤ es.length → es.drop i = rest → RInv n es q → Done es q pos → pos < q.length →
      (∀ e ∈ es.take i, (e.f0 = rd q pos → e.f1 ∈ q) ∧ (e.f1 = rd q pos → e.f0 ∈ q)) →
      ∃ r, Ev (fun k => spec_l02Reach.l1 k q (pos : Int) es (es.length : Int) (i : Int) n es) r ∧ RInv n es r ∧ Done es r r.length := by
  intro rest
  induction rest with
  | nil =>
    intro i q hi hd hinv hdone hpos hpart
    have hge := drop_nil hd
    have hlen := rinv_len hinv
    rw [List.take_of_length_le hge] at hpart
    obtain ⟨r, ⟨K, hK⟩, h1, h2⟩ := next q hinv (fun j hj => by
      by_cases e : j = pos
      · subst e; exact hpart
      · exact hdone j (by omega)) hpos
    refine ⟨r, ⟨K + 1, fun k hk => ?_⟩, h1, h2⟩
    obtain ⟨m, rfl⟩ : ∃ m, k = m + 1 := ⟨k - 1, by omega⟩
    have h3 := hK m (by omega)
    dsimp only at h3 ⊢
    simp only [spec_l02Reach.l1]
    rw [if_neg (by omega), wrap_succ (by omega), h3]
  | cons e rest ih =>
    intro i q hi hd hinv hdone hpos hpart
    have hlt := drop_lt hd
    have hmem : e ∈ es := by
      have : e ∈ es.drop i := by rw [hd]; simp
      exact List.mem_of_mem_drop this
    have hb := he e hmem
    have hlen := rinv_len hinv
    have hx : rd q pos ∈ q := by rw [rd_nat q pos hpos]; exact List.getElem_mem _
    have htake : es.take (i + 1) = es.take i ++ [e] := take_drop hd
    have step := reach_step n es q pos i e rest hd (by omega) hpos (by omega) hl
    by_cases c0 : e.f0 = rd q pos ∧ e.f1 ∉ q
    · obtain ⟨r, hr, h1, h2⟩ := ih (i + 1) (q ++ [e.f1]) (by omega) (drop_next hd) (rinv_add hinv hmem hb hx (Or.inl ⟨c0.1.symm, rfl⟩) c0.2) (done_add hdone (by omega) _) (by simp; omega) (fun x hx' => by
        rw [get_mem_append hpos]
        rw [htake] at hx'
        rcases List.mem_append.1 hx' with hx' | hx'
        · have := hpart x hx'
          exact ⟨fun hh => List.mem_append_left _ (this.1 hh), fun hh => List.mem_append_left _ (this.2 hh)⟩
        · simp at hx'
          subst hx'
          exact ⟨fun _ => by simp, fun hh => absurd (c0.1.trans hh.symm) (by omega)⟩)
      refine ⟨r, step r ?_, h1, h2⟩
      simp only [if_pos c0]
      exact hr
    · by_cases c1 : e.f1 = rd q pos ∧ e.f0 ∉ q
      · obtain ⟨r, hr, h1, h2⟩ := ih (i + 1) (q ++ [e.f0]) (by omega) (drop_next hd) (rinv_add hinv hmem hb hx (Or.inr ⟨c1.1.symm, rfl⟩) c1.2) (done_add hdone (by omega) _) (by simp; omega) (fun x hx' => by
          rw [get_mem_append hpos]
          rw [htake] at hx'
          rcases List.mem_append.1 hx' with hx' | hx'
          · have := hpart x hx'
            exact ⟨fun hh => List.mem_append_left _ (this.1 hh), fun hh => List.mem_append_left _ (this.2 hh)⟩
          · simp at hx'
            subst hx'
            exact ⟨fun hh => absurd (hh.trans c1.1.symm) (by omega), fun _ => by simp⟩)
        refine ⟨r, step r ?_, h1, h2⟩
        simp only [if_neg c0, if_pos c1]
        exact hr
      · obtain ⟨r, hr, h1, h2⟩ := ih (i + 1) q (by omega) (drop_next hd) hinv hdone hpos (fun x hx' => by
          rw [htake] at hx'
          rcases List.mem_append.1 hx' with hx' | hx'
          · exact hpart x hx'
          · simp at hx'
            subst hx'
            exact ⟨fun hh => Classical.byContradiction fun hn => c0 ⟨hh, hn⟩, fun hh => Classical.byContradiction fun hn => c1 ⟨hh, hn⟩⟩)
        refine ⟨r, step r ?_, h1, h2⟩
        simp only [if_neg c0, if_neg c1]
        exact hr

theorem reach_ev (n : Nat) (hn0 : 0 < n) (hn : n ≤ 6) (es : List S70) (he : ∀ e ∈ es, 0 ≤ e.f0 ∧ e.f0 < e.f1 ∧ e.f1 < n) (hl : es.length < 4611686018427387904) :
    ∃ r, Ev (fun k => spec_l02Reach.f k n es) r ∧ RInv n es r ∧ Done es r r.length := by
  have main : ∀ (d pos : Nat) (q : List Int), RInv n es q → Done es q pos → pos ≤ q.length → n < pos + d → ∃ r, Ev (fun k => spec_l02Reach.l0 k q (pos : Int) n es) r ∧ RInv n es r ∧ Done es r r.length := by
    intro d
    induction d with
    | zero =>
      intro pos q hinv _ hp hd
      have := rinv_len hinv
      omega
    | succ d ih =>
      intro pos q hinv hdone hp hd
      by_cases hlt : pos < q.length
      · obtain ⟨r, ⟨K, hK⟩, h1, h2⟩ := reach_inner n hn es he hl pos (fun q' h1 h2 h3 => ih (pos + 1) q' h1 h2 (by omega) (by omega)) es 0 q (by omega) rfl hinv hdone hlt (fun e he' => by simp at he')
        refine ⟨r, ⟨K + 1, fun k hk => ?_⟩, h1, h2⟩
        obtain ⟨m, rfl⟩ : ∃ m, k = m + 1 := ⟨k - 1, by omega⟩
        have h3 := hK m (by omega)
        dsimp only at h3 ⊢
        simp only [spec_l02Reach.l0]
        rw [if_pos (by omega)]
        exact h3
      · refine ⟨q, ev1 fun k => ?_, hinv, ?_⟩
        · simp only [spec_l02Reach.l0]
          rw [if_neg (by omega)]
        · have : pos = q.length := by omega
          rw [this] at hdone
          exact hdone
  refine main (n + 1) 0 [0] ⟨by simp, fun v hv => by simp at hv; omega, by simp, fun P h0 _ v hv => by simp at hv; rw [hv]; exact h0⟩ (fun j hj => by omega) (by simp) (by omega)

theorem reach_all (n : Nat) (es : List S70) (r : List Int) (h1 : RInv n es r) (h2 : Done es r r.length) : ((r.length : Int) == n) = true ↔ ConnE n es := by
  have hlen := rinv_len h1
  constructor
  · intro h P h0 hP v hv0 hv
    simp at h
    refine h1.2.2.2 P h0 hP v (Classical.byContradiction fun hno => ?_)
    have := List.Nodup.length_le_of_subset (l₁ := v :: r) (by rw [List.nodup_cons]; exact ⟨hno, h1.1⟩) (l₂ := (List.range n).map fun i : Nat => (i : Int)) (fun u hu => by
      have hb : 0 ≤ u ∧ u < n := by
        rcases List.mem_cons.1 hu with rfl | hu
        · omega
        · exact h1.2.1 u hu
      exact List.mem_map.2 ⟨u.toNat, by simp; omega, by omega⟩)
    simp at this
    omega
  · intro h
    have hall := h (fun v => v ∈ r) h1.2.2.1 (fun e he => by
      constructor
      · intro hm
        obtain ⟨j, hj, hjv⟩ := List.mem_iff_getElem.1 hm
        exact (h2 j hj e he).1 (by rw [rd_nat r j hj]; exact hjv.symm)
      · intro hm
        obtain ⟨j, hj, hjv⟩ := List.mem_iff_getElem.1 hm
        exact (h2 j hj e he).2 (by rw [rd_nat r j hj]; exact hjv.symm))
    have := List.Nodup.length_le_of_subset (l₁ := (List.range n).map fun i : Nat => (i : Int)) (l₂ := r) (by
      refine List.Pairwise.map _ (fun a b hab => ?_) List.nodup_range
      show (a : Int) ≠ b
      omega) (fun v hv => by
      obtain ⟨i, hi, rfl⟩ := List.mem_map.1 hv
      simp at hi
      exact hall _ (by omega) (by omega))
    simp at this ⊢
    omega

theorem spec_graphOk_iff (n : Int) (es : List S70) (hl : es.length < 4611686018427387904) : ∃ b : Bool, Ev (fun k => spec_GraphOk.f k n es) b ∧ (b = true ↔ GraphP n es) := by
  have h1 := spec_edgesOk_ev n es hl
  simp only [spec_GraphOk.f]
  by_cases hb : edgesB n es = true
  · obtain ⟨f1, f2, f3, f4⟩ := edgesB_facts hb
    obtain ⟨m, rfl⟩ : ∃ m : Nat, n = m := ⟨n.toNat, by omega⟩
    obtain ⟨r, hr, r1, r2⟩ := reach_ev m (by omega) (by omega) es f4 hl
    rw [hb] at h1
    have main : ∀ (d i : Nat), i + d = es.length → ∃ b : Bool, Ev (fun k => spec_GraphOk.l0 k es (es.length : Int) (i : Int) m es) b ∧
        (b = true ↔ (∀ j, i ≤ j + 1 → j + 1 < es.length → ¬ ((es.getD (j + 1) z70).f0 < (es.getD j z70).f0 ∨ ((es.getD (j + 1) z70).f0 = (es.getD j z70).f0 ∧ (es.getD (j + 1) z70).f1 < (es.getD j z70).f1))) ∧ ConnE m es) := by
      intro d
      induction d with
      | zero =>
        intro i hi
        obtain ⟨K, hK⟩ := hr
        refine ⟨((r.length : Int) == m), ⟨K + 1, fun k hk => ?_⟩, ?_⟩
        · obtain ⟨p, rfl⟩ : ∃ p, k = p + 1 := ⟨k - 1, by omega⟩
          have h3 := hK p (by omega)
          dsimp only at h3 ⊢
          simp only [spec_GraphOk.l0]
          rw [if_neg (by omega), h3]
          rfl
        · rw [reach_all m es r r1 r2]
          exact ⟨fun h => ⟨fun j h1 h2 => by omega, h⟩, fun h => h.2⟩
      | succ d ih =>
        intro i hi
        obtain ⟨b, hK, hiff⟩ := ih (i + 1) (by omega)
        have stop : Ev (fun k => spec_GraphOk.j1 k es (es.length : Int) (i : Int) true m es) false := ev1 fun k => by simp only [spec_GraphOk.j1, if_true]
        have go : Ev (fun k => spec_GraphOk.j1 k es (es.length : Int) (i : Int) false m es) b := by
          refine ev_succ ?_
          simp only [spec_GraphOk.j1, Bool.false_eq_true, if_false, wrap_succ (show i < 4611686018427387904 by omega)]
          exact hK
        by_cases i0 : i = 0
        · subst i0
          refine ⟨b, ev_succ ?_, ?_⟩
          · simp only [spec_GraphOk.l0]
            exact ev_ift (by omega) (ev_ift (by omega) (ev_ift (by omega) (ev_ifn (by omega) go)))
          · rw [hiff]
            exact ⟨fun h => ⟨fun j _ h2 => h.1 j (by omega) h2, h.2⟩, fun h => ⟨fun j _ h2 => h.1 j (by omega) h2, h.2⟩⟩
        · obtain ⟨p, rfl⟩ : ∃ p, i = p + 1 := ⟨i - 1, by omega⟩
          have ew : wrap64 (((p + 1 : Nat) : Int) - 1) = (p : Int) := by unfold wrap64; omega
          by_cases hc : (es.getD (p + 1) z70).f0 < (es.getD p z70).f0 ∨ ((es.getD (p + 1) z70).f0 = (es.getD p z70).f0 ∧ (es.getD (p + 1) z70).f1 < (es.getD p z70).f1)
          · refine ⟨false, ev_succ ?_, ?_⟩
            · simp only [spec_GraphOk.l0, ew, rdE_nat]
              refine ev_ift (by omega) (ev_ift (by omega) (ev_ift (by omega) (ev_ift (by omega) (ev_ift (by omega) (ev_ift (by omega) ?_)))))
              by_cases c0 : (es.getD (p + 1) z70).f0 < (es.getD p z70).f0
              · exact ev_ift c0 stop
              · have c1 : (es.getD (p + 1) z70).f1 < (es.getD p z70).f1 := by omega
                simp only [decide_eq_true c1]
                exact ev_ifn c0 (ev_ift (by omega) stop)
            · simp only [Bool.false_eq_true, false_iff]
              exact fun h => h.1 p (by omega) (by omega) hc
          · refine ⟨b, ev_succ ?_, ?_⟩
            · simp only [spec_GraphOk.l0, ew, rdE_nat]
              refine ev_ift (by omega) (ev_ift (by omega) (ev_ift (by omega) (ev_ift (by omega) (ev_ift (by omega) (ev_ift (by omega) (ev_ifn (by omega) ?_))))))
              by_cases c0 : (es.getD (p + 1) z70).f0 = (es.getD p z70).f0
              · have c1 : ¬ (es.getD (p + 1) z70).f1 < (es.getD p z70).f1 := by omega
                simp only [decide_eq_false c1]
                exact ev_ift c0 go
              · exact ev_ifn c0 go
            · rw [hiff]
              refine ⟨fun h => ⟨fun j h1 h2 => ?_, h.2⟩, fun h => ⟨fun j _ h2 => h.1 j (by omega) h2, h.2⟩⟩
              by_cases e : j = p
              · subst e; exact hc
              · exact h.1 j (by omega) h2
    obtain ⟨b, hb2, hiff⟩ := main es.length 0 (by omega)
    refine ⟨b, Ev.bind h1 ?_, ?_⟩
    · simp only [if_true]
      exact hb2
    · rw [hiff]
      exact ⟨fun h => ⟨hb, fun i hi => h.1 i (by omega) hi, h.2⟩, fun h => ⟨fun j _ h2 => h.2.1 j h2, h.2.2⟩⟩
  · refine ⟨false, Ev.bind h1 ?_, ?_⟩
    · simp only [hb]
      exact Ev.now _
    · simp only [Bool.false_eq_true, false_iff]
      exact fun h => hb h.1

/-- Both tell whether the graph is valid. -/
theorem graphOk_both (n : Int) (es : List S70) (hl : es.length < 4611686018427387904) : ∃ b : Bool, Ev (fun k => impl_GraphOk.f k n es) b ∧ Ev (fun k => spec_GraphOk.f k n es) b ∧ (b = true ↔ GraphP n es) := by
  obtain ⟨b, h1, i1⟩ := impl_graphOk_iff n es hl
  obtain ⟨b', h2, i2⟩ := spec_graphOk_iff n es hl
  have : b' = b := by rw [Bool.eq_iff_iff, i1, i2]
  subst this
  exact ⟨b', h1, h2, i1⟩

end Go.Proofs.Ytnebapnfkolflaa.Pure
end
section
set_option linter.unusedVariables false
set_option linter.unusedSimpArgs false
namespace Go.Proofs.Ytnebapnfkolflaa.Pure
open Go.RowKit Go.Proofs.Ytnebapnfkolflaa.P Go.Proofs.YtnebapnfkolflaaW.PrintWords Go.Proofs.YtnebapnfkolflaaW.PrintLast Go.Proofs.YtnebapnfkolflaaW.PrintMore Go.Proofs.Ytnebapnfkolflaa.Base Go.Proofs.Ytnebapnfkolflaa.Loops

theorem toIntS_l0 (l : List Int) (hl : l.length < 4611686018427387904) : ∀ (d k i : Nat) (x : List Int), i + d = l.length → x.length = l.length → x.take i = l.take i → d < k → laws_toIntS.l0 k l x (i : Int) = some l := by
  intro d
  induction d with
  | zero =>
    intro k i x hi hx ht hk
    obtain ⟨k, rfl⟩ := succ_of_lt hk
    simp only [laws_toIntS.l0]
    rw [if_neg (by omega)]
    rw [List.take_of_length_le (by omega), List.take_of_length_le (by omega)] at ht
    rw [ht]
  | succ d ih =>
    intro k i x hi hx ht hk
    obtain ⟨k, rfl⟩ := succ_of_lt hk
    simp only [laws_toIntS.l0]
    rw [if_pos (by omega), if_pos (by omega), if_pos (by omega), wrap_succ (by omega), rd_nat l i (by omega), Int.toNat_natCast]
    refine ih k (i + 1) _ (by omega) (by simpa using hx) ?_ (by omega)
    rw [List.take_succ_eq_append_getElem (by simp; omega), List.take_succ_eq_append_getElem (by omega), List.take_set_of_le (Nat.le_refl _), ht]
    simp

theorem toIntS_ev (l : List Int) (hl : l.length ≤ 1048576) : Ev (fun k => laws_toIntS.f k l) l := by
  refine ev_k l.length fun k hk => ?_
  unfold laws_toIntS.f
  rw [if_pos (by omega), if_pos (by omega)]
  exact toIntS_l0 l (by omega) l.length k 0 _ (by omega) (by simp) (by simp) hk

end Go.Proofs.Ytnebapnfkolflaa.Pure
end
section
set_option linter.unusedVariables false
set_option linter.unusedSimpArgs false
namespace Go.Proofs.Ytnebapnfkolflaa.Pure
open Go.RowKit Go.Proofs.Ytnebapnfkolflaa.P Go.Proofs.YtnebapnfkolflaaW.PrintWords Go.Proofs.YtnebapnfkolflaaW.PrintLast Go.Proofs.YtnebapnfkolflaaW.PrintMore Go.Proofs.Ytnebapnfkolflaa.Base Go.Proofs.Ytnebapnfkolflaa.Loops

theorem eqIntS_l0 (l : List Int) (hl : l.length < 4611686018427387904) : ∀ (d k i : Nat), i + d = l.length → d < k → laws_eqIntS.l0 k l l (i : Int) = some true := by
  intro d
  induction d with
  | zero =>
    intro k i hi hk
    obtain ⟨k, rfl⟩ := succ_of_lt hk
    simp only [laws_eqIntS.l0]
    rw [if_neg (by omega)]
  | succ d ih =>
    intro k i hi hk
    obtain ⟨k, rfl⟩ := succ_of_lt hk
    simp only [laws_eqIntS.l0]
    rw [if_pos (by omega), if_pos (by omega), if_pos (by omega), wrap_succ (by omega)]
    exact ih k (i + 1) (by omega) (by omega)

theorem eqIntS_ev (l : List Int) (hl : l.length < 4611686018427387904) : Ev (fun k => laws_eqIntS.f k l l) true := by
  refine ev_k l.length fun k hk => ?_
  unfold laws_eqIntS.f
  simp only [if_true]
  exact eqIntS_l0 l hl l.length k 0 (by omega) hk

end Go.Proofs.Ytnebapnfkolflaa.Pure
end
section
set_option linter.unusedVariables false
set_option linter.unusedSimpArgs false
namespace Go.Proofs.Ytnebapnfkolflaa.Pure
open Go.RowKit Go.Proofs.Ytnebapnfkolflaa.P Go.Proofs.YtnebapnfkolflaaW.PrintWords Go.Proofs.YtnebapnfkolflaaW.PrintLast Go.Proofs.YtnebapnfkolflaaW.PrintMore Go.Proofs.Ytnebapnfkolflaa.Base Go.Proofs.Ytnebapnfkolflaa.Bits Go.Proofs.Ytnebapnfkolflaa.Loops

theorem within_eq (a b c : Int) : impl_within.f a b c = some (decide (b ≤ a ∧ a ≤ c)) := by
  unfold impl_within.f
  by_cases h : a ≥ b
  · rw [if_pos h]; simp; omega
  · rw [if_neg h]; simp; omega

theorem in_eq (a b c : Int) : spec_l01In.f a b c = some (decide (b ≤ a ∧ a ≤ c)) := by
  unfold spec_l01In.f
  by_cases h : a ≥ b
  · rw [if_pos h]; simp; omega
  · rw [if_neg h]; simp; omega

/-- All elements from lo to hi. -/
def allB (l : List Int) (lo hi : Int) : Bool := l.all fun x => decide (lo ≤ x ∧ x ≤ hi)

theorem allWithin_ev (l : List Int) (lo hi : Int) (hl : l.length < 4611686018427387904) : Ev (fun k => impl_allWithin.f k l lo hi) (allB l lo hi) := by
  simp only [impl_allWithin.f]
  refine ev_list0 l (fun k (_ : Unit) i => impl_allWithin.l0 k lo hi l (l.length : Int) i) (fun _ r => allB r lo hi) (fun _ _ => True) (fun s _ => ev1 fun k => ?_) (fun s a rest i hlt hd _ => ?_) () trivial
  · simp only [impl_allWithin.l0]
    rw [if_neg (by omega)]; rfl
  · by_cases h : lo ≤ a ∧ a ≤ hi
    · refine Or.inr ⟨(), trivial, by simp [allB, h], 0, fun k _ => ?_⟩
      simp only [impl_allWithin.l0, rd_drop hd, within_eq, Option.bind_some]
      rw [if_pos (by omega), if_pos (by omega), if_pos (by omega), if_pos (by simp [h]), wrap_succ (by omega)]
    · refine Or.inl (ev1 fun k => ?_)
      simp only [impl_allWithin.l0, rd_drop hd, within_eq, Option.bind_some]
      rw [if_pos (by omega), if_pos (by omega), if_pos (by omega), if_neg (by simpa using h)]
      simp [allB, h]

theorem all_loop (l : List Int) (lo hi : Int) (hl : l.length < 4611686018427387904) (g : Nat → Int → Option Bool)
    (hg : ∀ k i, g (k + 1) i = if i < (l.length : Int) then (if 0 ≤ i then (if i < (l.length : Int) then ((spec_l01In.f (rd l i) lo hi).bind fun t => (if t = true then (g k (wrap64 (i + 1))) else (some false))) else (none)) else (none)) else (some true)) :
    Ev (fun k => g k 0) (allB l lo hi) := by
  refine ev_list0 l (fun k (_ : Unit) i => g k i) (fun _ r => allB r lo hi) (fun _ _ => True) (fun s _ => ev1 fun k => ?_) (fun s a rest i hlt hd _ => ?_) () trivial
  · rw [hg, if_neg (by omega)]; rfl
  · by_cases h : lo ≤ a ∧ a ≤ hi
    · refine Or.inr ⟨(), trivial, by simp [allB, h], 0, fun k _ => ?_⟩
      rw [hg, if_pos (by omega), if_pos (by omega), if_pos (by omega), rd_drop hd, in_eq, Option.bind_some, if_pos (by simp [h]), wrap_succ (by omega)]
    · refine Or.inl (ev1 fun k => ?_)
      rw [hg, if_pos (by omega), if_pos (by omega), if_pos (by omega), rd_drop hd, in_eq, Option.bind_some, if_neg (by simpa using h)]
      simp [allB, h]

end Go.Proofs.Ytnebapnfkolflaa.Pure
end
section
set_option linter.unusedVariables false
set_option linter.unusedSimpArgs false
namespace Go.Proofs.Ytnebapnfkolflaa.Pure
open Go.RowKit Go.Proofs.Ytnebapnfkolflaa.P Go.Proofs.YtnebapnfkolflaaW.PrintWords Go.Proofs.YtnebapnfkolflaaW.PrintLast Go.Proofs.YtnebapnfkolflaaW.PrintMore Go.Proofs.Ytnebapnfkolflaa.Base Go.Proofs.Ytnebapnfkolflaa.Bits Go.Proofs.Ytnebapnfkolflaa.Loops

/-- A valid divisor. -/
def DivP (n : Int) (es : List S70) (d : List Int) : Prop := GraphP n es ∧ (d.length : Int) = n ∧ allB d (-60) 60 = true

theorem divOk_both (n : Int) (es : List S70) (d : List Int) (hl : es.length < 4611686018427387904) (hd : d.length < 4611686018427387904) : ∃ b : Bool, Ev (fun k => impl_DivisorOk.f k n es d) b ∧ Ev (fun k => spec_DivisorOk.f k n es d) b ∧ (b = true ↔ DivP n es d) := by
  obtain ⟨b, h1, h2, hb⟩ := graphOk_both n es hl
  simp only [impl_DivisorOk.f, spec_DivisorOk.f]
  have off : ∀ q : Bool, q = true → Ev (fun k => spec_DivisorOk.j0 k d q) false := fun q hq => ev1 fun k => by
    simp only [spec_DivisorOk.j0, hq, if_true]
  cases b with
  | false =>
    refine ⟨false, Ev.bind h1 ?_, Ev.bind h2 ?_, ?_⟩
    · simp only [Bool.false_eq_true, if_false]; exact Ev.now _
    · simp only [Bool.false_eq_true, if_false]; exact off _ rfl
    · simp only [Bool.false_eq_true, false_iff] at hb ⊢
      exact fun h => hb h.1
  | true =>
    simp only [true_iff] at hb
    by_cases hn : (d.length : Int) = n
    · refine ⟨allB d (-60) 60, Ev.bind h1 ?_, Ev.bind h2 ?_, ?_⟩
      · simp only [if_true, if_pos hn]
        exact Ev.bind (allWithin_ev d (-60) 60 hd) (Ev.now _)
      · simp only [if_true]
        refine ev_succ ?_
        simp only [spec_DivisorOk.j0]
        simp only [if_neg (show ¬ ((d.length : Int) != n) = true by simp [hn])]
        exact all_loop d (-60) 60 hd (fun k i => spec_DivisorOk.l0 k d (d.length : Int) i) (fun k i => by simp only [spec_DivisorOk.l0])
      · exact ⟨fun h => ⟨hb, hn, h⟩, fun h => h.2.2⟩
    · refine ⟨false, Ev.bind h1 ?_, Ev.bind h2 ?_, ?_⟩
      · simp only [if_true, if_neg hn]; exact Ev.now _
      · simp only [if_true]; exact off _ (by simp [hn])
      · simp only [Bool.false_eq_true, false_iff]
        exact fun h => hn h.2.1

end Go.Proofs.Ytnebapnfkolflaa.Pure
end
section
set_option linter.unusedVariables false
set_option linter.unusedSimpArgs false
namespace Go.Proofs.Ytnebapnfkolflaa.Pure
open Go.RowKit Go.Proofs.Ytnebapnfkolflaa.P Go.Proofs.YtnebapnfkolflaaW.PrintWords Go.Proofs.YtnebapnfkolflaaW.PrintLast Go.Proofs.YtnebapnfkolflaaW.PrintMore Go.Proofs.Ytnebapnfkolflaa.Base Go.Proofs.Ytnebapnfkolflaa.Loops Go.Proofs.Ytnebapnfkolflaa.Bits

/-- The edges from v to the vertices of a list. -/
def sumQ (n : Int) (es : List S70) (v : Int) : List Int → Int
  | [] => 0
  | w :: q => multI n es v w + sumQ n es v q

theorem multI_b (n : Int) (es : List S70) (v w : Int) : 0 ≤ multI n es v w ∧ multI n es v w ≤ es.length := by
  unfold multI
  split
  · have : multN es v w ≤ es.length := List.countP_le_length
    omega
  · omega

theorem sumQ_b (n : Int) (es : List S70) (v : Int) : ∀ q : List Int, 0 ≤ sumQ n es v q ∧ sumQ n es v q ≤ es.length * q.length := by
  intro q
  induction q with
  | nil => simp [sumQ]
  | cons w q ih =>
    have := multI_b n es v w
    simp only [sumQ, List.length_cons]
    rw [Int.natCast_add, Int.mul_add]
    simp only [Int.natCast_one, Int.mul_one]
    omega

theorem sumQ_append (n : Int) (es : List S70) (v : Int) (x : Int) : ∀ q : List Int, sumQ n es v (q ++ [x]) = sumQ n es v q + multI n es v x := by
  intro q
  induction q with
  | nil => simp [sumQ]
  | cons w q ih => simp only [List.cons_append, sumQ, ih]; omega

/-- The same over all vertices that burn. -/
def sumB (n : Int) (es : List S70) (v : Int) (q : List Int) : Nat → Int
  | 0 => 0
  | i + 1 => sumB n es v q i + (if (i : Int) ∈ q then multI n es v i else 0)

theorem sumB_nil (n : Int) (es : List S70) (v : Int) : ∀ m, sumB n es v [] m = 0 := by
  intro m
  induction m with
  | zero => rfl
  | succ m ih => simp [sumB, ih]

theorem sumB_cons (n : Int) (es : List S70) (v : Int) (x : Int) (q : List Int) (hx : x ∉ q) (h0 : 0 ≤ x) : ∀ m : Nat, sumB n es v (x :: q) m = sumB n es v q m + (if x < m then multI n es v x else 0) := by
  intro m
  induction m with
  | zero => simp only [sumB]; rw [if_neg (by omega)]; rfl
  | succ m ih =>
    simp only [sumB, ih, List.mem_cons]
    by_cases e : (m : Int) = x
    · subst e
      rw [if_neg (Int.lt_irrefl (m : Int)), if_pos (Or.inl rfl : (m : Int) = m ∨ (m : Int) ∈ q), if_neg hx, if_pos (show (m : Int) < ((m + 1 : Nat) : Int) by omega)]; try omega
    · have g2 : x < ((m + 1 : Nat) : Int) ↔ x < (m : Int) := by omega
      by_cases c : (m : Int) ∈ q
      · rw [if_pos (Or.inr c : (m : Int) = x ∨ (m : Int) ∈ q), if_pos c]
        by_cases g : x < m
        · rw [if_pos g, if_pos (g2.2 g)]; try omega
        · rw [if_neg g, if_neg (fun h => g (g2.1 h))]; try omega
      · rw [if_neg (show ¬ ((m : Int) = x ∨ (m : Int) ∈ q) from fun h => h.elim e c), if_neg c]
        by_cases g : x < m
        · rw [if_pos g, if_pos (g2.2 g)]; try omega
        · rw [if_neg g, if_neg (fun h => g (g2.1 h))]; try omega

theorem sumB_eq (n : Int) (es : List S70) (v : Int) (m : Nat) : ∀ q : List Int, q.Nodup → (∀ w ∈ q, 0 ≤ w ∧ w < m) → sumB n es v q m = sumQ n es v q := by
  intro q
  induction q with
  | nil => intro _ _; exact sumB_nil n es v m
  | cons x q ih =>
    intro hd hr
    rw [List.nodup_cons] at hd
    have hx := hr x (by simp)
    rw [sumB_cons n es v x q hd.1 hx.1 m, ih hd.2 (fun w hw => hr w (by simp [hw])), if_pos hx.2]
    simp only [sumQ]; omega

/-- Whether v burns next. -/
def hotB (n : Int) (es : List S70) (d q : List Int) (v : Nat) : Bool := !decide ((v : Int) ∈ q) && decide (d.getD v 0 < sumQ n es v q)

/-- The least place from i on, of c places, where P holds. -/
def lowB (P : Nat → Bool) : Nat → Nat → Int
  | _, 0 => -1
  | i, c + 1 => if P i = true then (i : Int) else lowB P (i + 1) c

theorem lowB_spec (P : Nat → Bool) : ∀ (c i : Nat), (lowB P i c = -1 ∧ ∀ j, i ≤ j → j < i + c → P j = false) ∨ ∃ j : Nat, lowB P i c = j ∧ i ≤ j ∧ j < i + c ∧ P j = true := by
  intro c
  induction c with
  | zero => intro i; exact Or.inl ⟨rfl, fun j h1 h2 => by omega⟩
  | succ c ih =>
    intro i
    simp only [lowB]
    by_cases h : P i = true
    · rw [if_pos h]; exact Or.inr ⟨i, rfl, Nat.le_refl _, by omega, h⟩
    · rw [if_neg h]
      rcases ih (i + 1) with ⟨h1, h2⟩ | ⟨j, h1, h2, h3, h4⟩
      · refine Or.inl ⟨h1, fun j h3 h4 => ?_⟩
        by_cases e : j = i
        · subst e; simpa using h
        · exact h2 j (by omega) (by omega)
      · exact Or.inr ⟨j, h1, by omega, by omega, h4⟩

theorem index_ev (q : List Int) (x : Int) (hq : q.length < 4611686018427387904) : ∃ t : Int, Ev (fun k => slices_Index_int_int.f k q x) t ∧ (t ≥ 0 ↔ x ∈ q) := by
  simp only [slices_Index_int_int.f]
  have main : ∀ (rest : List Int) (i : Nat), i ≤ q.length → q.drop i = rest → ∃ t : Int, Ev (fun k => slices_Index_int_int.l0 k q x (q.length : Int) (i : Int)) t ∧ (t ≥ 0 ↔ x ∈ rest) := by
    intro rest
    induction rest with
    | nil =>
      intro i hi hd
      have := drop_nil hd
      refine ⟨-1, ev1 fun k => ?_, by simp⟩
      simp only [slices_Index_int_int.l0]
      rw [if_neg (by omega)]
    | cons a rest ih =>
      intro i hi hd
      have hlt := drop_lt hd
      by_cases e : x = a
      · refine ⟨i, ev1 fun k => ?_, by simp [e]⟩
        simp only [slices_Index_int_int.l0, rd_drop hd]
        rw [if_pos (by omega), if_pos (by omega), if_pos (by omega), if_pos e]
      · obtain ⟨t, h1, h2⟩ := ih (i + 1) (by omega) (drop_next hd)
        refine ⟨t, ev_succ ?_, by rw [h2]; simp [e]⟩
        simp only [slices_Index_int_int.l0, rd_drop hd, wrap_succ (show i < 4611686018427387904 by omega)]
        exact ev_ift (by omega) (ev_ift (by omega) (ev_ift (by omega) (ev_ifn e h1)))
  exact main q 0 (by omega) rfl

theorem contains_ev (q : List Int) (x : Int) (hq : q.length < 4611686018427387904) : Ev (fun k => slices_Contains_int_int.f k q x) (decide (x ∈ q)) := by
  obtain ⟨t, h1, h2⟩ := index_ev q x hq
  simp only [slices_Contains_int_int.f]
  refine Ev.bind h1 ?_
  rw [show decide (t ≥ 0) = decide (x ∈ q) by simp [h2]]
  exact Ev.now _

/-- What burns: vertices, none twice. -/
def BInv (n : Nat) (q : List Int) : Prop := q.Nodup ∧ ∀ v ∈ q, 0 ≤ v ∧ v < n

theorem binv_len {n : Nat} {q : List Int} (h : BInv n q) : q.length ≤ n := by
  have := List.Nodup.length_le_of_subset h.1 (l₂ := (List.range n).map fun i : Nat => (i : Int)) (fun v hv => by
    have hb := h.2 v hv
    exact List.mem_map.2 ⟨v.toNat, by simp; omega, by omega⟩)
  simpa using this

theorem binv_add {n : Nat} {q : List Int} (h : BInv n q) {v : Int} (hv : v ∉ q) (hb : 0 ≤ v ∧ v < n) : BInv n (q ++ [v]) := by
  refine ⟨?_, fun x hx => ?_⟩
  · rw [List.nodup_append]
    refine ⟨h.1, by simp, fun a ha b hb' => ?_⟩
    simp at hb'
    subst hb'
    intro e'
    subst e'
    exact hv ha
  · rcases List.mem_append.1 hx with hx | hx
    · exact h.2 x hx
    · simp at hx; subst hx; exact hb

/-- The program's look for the next vertex. -/
theorem impl_next (n : Nat) (hn : n ≤ 6) (es : List S70) (hl : es.length ≤ 12) (d q : List Int) (hd : d.length = n) (hq : BInv n q) (r : List Int)
    (hstop : lowB (hotB n es d q) 0 n = -1 → r = q)
    (hgo : ∀ v : Nat, lowB (hotB n es d q) 0 n = v → Ev (fun k => impl_burn.l0 k d (q ++ [(v : Int)]) n es) r) :
    Ev (fun k => impl_burn.l0 k d q n es) r := by
  have hql := binv_len hq
  have stop : ∀ (x : Int) (i : Nat), x = lowB (hotB n es d q) 0 n → Ev (fun k => impl_burn.j2 k d q x (i : Int) false n es) r := by
    intro x i hx
    refine ev_succ ?_
    simp only [impl_burn.j2]
    refine ev_iff ?_
    rcases lowB_spec (hotB n es d q) n 0 with ⟨h1, _⟩ | ⟨j, h1, _, _, _⟩
    · rw [hx, h1, hstop h1]
      exact ev_ift (by omega) (Ev.now _)
    · rw [hx, h1]
      exact ev_ifn (by omega) (ev_ift (by omega) (hgo j h1))
  have main : ∀ (c i : Nat), i + c = n → lowB (hotB n es d q) i c = lowB (hotB n es d q) 0 n → Ev (fun k => impl_burn.l1 k d q (-1) (i : Int) n es) r := by
    intro c
    induction c with
    | zero =>
      intro i hi hlow
      refine ev_succ ?_
      simp only [impl_burn.l1]
      exact ev_ifn (by omega) (stop (-1) i hlow)
    | succ c ih =>
      intro i hi hlow
      refine ev_succ ?_
      simp only [impl_burn.l1]
      refine ev_ift (by omega) (ev_succ ?_)
      simp only [impl_burn.j2]
      refine ev_ift (by decide) ?_
      have hin : ∀ s, s = sumQ n es i q → Ev (fun k => impl_burn.l2 k d q (-1) (i : Int) s q (q.length : Int) (q.length : Int) n es) r := by
        intro s hs
        subst hs
        refine ev_succ ?_
        simp only [impl_burn.l2]
        refine ev_ifn (by omega) (Ev.bind (contains_ev q i (by omega)) ?_)
        simp only [lowB] at hlow
        by_cases hc : (i : Int) ∈ q
        · have hf : hotB n es d q i = false := by simp [hotB, hc]
          rw [hf] at hlow
          simp only [Bool.false_eq_true, if_false] at hlow
          simp only [wrap_succ (show i < 4611686018427387904 by omega)]
          exact ev_ift (by simp [hc]) (ih (i + 1) (by omega) hlow)
        · refine ev_ifn (by simp [hc]) (ev_ift (by omega) (ev_ift (by omega) ?_))
          by_cases hlt : d.getD i 0 < sumQ n es i q
          · have hf : hotB n es d q i = true := by simp only [hotB, decide_eq_true hlt, Bool.and_true, decide_eq_false hc, Bool.not_false]
            rw [if_pos hf] at hlow
            refine ev_ift hlt (ev_succ ?_)
            simp only [impl_burn.l1, wrap_succ (show i < 4611686018427387904 by omega)]
            by_cases hi2 : i + 1 < n
            · rw [show decide ((i : Int) < 0) = false by simp]
              exact ev_ift (by omega) (stop i (i + 1) hlow)
            · exact ev_ifn (by omega) (stop i (i + 1) hlow)
          · have hf : hotB n es d q i = false := by simp only [hotB, decide_eq_false hlt, Bool.and_false]
            rw [hf] at hlow
            simp only [Bool.false_eq_true, if_false] at hlow
            simp only [wrap_succ (show i < 4611686018427387904 by omega)]
            exact ev_ifn hlt (ih (i + 1) (by omega) hlow)
      refine ev_listE q (fun k (s : Int) j => impl_burn.l2 k d q (-1) (i : Int) s q (q.length : Int) j n es) (fun _ _ => r) (fun s rest => 0 ≤ s ∧ s + sumQ n es i rest = sumQ n es i q) (fun s hs => hin s (by simpa [sumQ] using hs.2)) (fun s w rest j hj hdr hs => ?_) 0 (by simp)
      refine Or.inr ⟨s + multI n es i w, ?_, rfl, fun r' hr' => ev_succ ?_⟩
      · have := multI_b n es i w
        simp only [sumQ] at hs
        omega
      · have hb := multI_b n es i w
        have hb2 := sumQ_b n es i q
        have hb3 := sumQ_b n es i rest
        have hb4 : (es.length : Int) * (q.length : Int) ≤ 12 * 6 := Int.mul_le_mul (by omega) (by omega) (by omega) (by omega)
        simp only [sumQ] at hs
        simp only [impl_burn.l2, rd_drop hdr, wrap_succ (show j < 4611686018427387904 by omega)]
        refine ev_ift (by omega) (ev_ift (by omega) (ev_ift (by omega) (Ev.bind (impl_mult_ev n es (by omega) i w) ?_)))
        rw [wrap_id (by omega) (by omega)]
        exact hr'
  refine ev_succ ?_
  simp only [impl_burn.l0]
  exact main n 0 (by omega) rfl

/-- The reference's look for the next vertex. -/
theorem spec_next (n : Nat) (hn : n ≤ 6) (es : List S70) (hl : es.length ≤ 12) (d q : List Int) (b : List Bool) (hd : d.length = n) (hq : BInv n q) (hb : b.length = n) (hbq : ∀ v : Nat, b.getD v false = decide ((v : Int) ∈ q)) (r : List Int)
    (hstop : lowB (hotB n es d q) 0 n = -1 → r = q)
    (hgo : ∀ v : Nat, lowB (hotB n es d q) 0 n = v → Ev (fun k => spec_l05Burn.l0 k d (q ++ [(v : Int)]) (b.set v true) n es) r) :
    Ev (fun k => spec_l05Burn.l0 k d q b n es) r := by
  have hql := binv_len hq
  have main : ∀ (i c : Nat), i + c = n → Ev (fun k => spec_l05Burn.l1 k d q b (lowB (hotB n es d q) i c) ((i : Int) - 1) n es) r := by
    intro i
    induction i with
    | zero =>
      intro c hc
      obtain rfl : c = n := by omega
      refine ev_succ ?_
      simp only [spec_l05Burn.l1]
      refine ev_ifn (by omega) ?_
      rcases lowB_spec (hotB c es d q) c 0 with ⟨h1, _⟩ | ⟨j, h1, _, h3, _⟩
      · rw [h1, hstop h1]
        exact ev_ift (by omega) (Ev.now _)
      · have hg := hgo j h1
        rw [h1, Int.toNat_natCast]
        exact ev_ifn (by omega) (ev_ift (by omega) (ev_ift (by omega) (ev_ift (by omega) hg)))
    | succ i ih =>
      intro c hc
      have hih := ih (c + 1) (by omega)
      refine ev_succ ?_
      simp only [spec_l05Burn.l1]
      rw [show ((i + 1 : Nat) : Int) - 1 = (i : Int) by omega]
      refine ev_ift (by omega) ?_
      have hin : ∀ s, s = sumQ n es i q → Ev (fun k => spec_l05Burn.l2 k d q b (lowB (hotB n es d q) (i + 1) c) (i : Int) s (n : Int) n es) r := by
        intro s hs
        subst hs
        refine ev_succ ?_
        simp only [spec_l05Burn.l2]
        have er : rdOf false b (i : Int) = decide ((i : Int) ∈ q) := by rw [← hbq i]; rfl
        rw [er, show wrap64 ((i : Int) - 1) = (i : Int) - 1 by unfold wrap64; omega]
        refine ev_ifn (by omega) (ev_ift (by omega) (ev_ift (by omega) ?_))
        simp only [lowB] at hih
        by_cases hc' : (i : Int) ∈ q
        · have hf : hotB n es d q i = false := by simp [hotB, hc']
          rw [hf] at hih
          simp only [Bool.false_eq_true, if_false] at hih
          exact ev_ift (by simp [hc']) hih
        · refine ev_ifn (by simp [hc']) (ev_ift (by omega) ?_)
          by_cases hlt : d.getD i 0 < sumQ n es i q
          · have hf : hotB n es d q i = true := by simp only [hotB, decide_eq_true hlt, Bool.and_true, decide_eq_false hc', Bool.not_false]
            rw [hf] at hih
            simp only [if_true] at hih
            exact ev_ift hlt hih
          · have hf : hotB n es d q i = false := by simp only [hotB, decide_eq_false hlt, Bool.and_false]
            rw [hf] at hih
            simp only [Bool.false_eq_true, if_false] at hih
            exact ev_ifn hlt hih
      have inner : ∀ (e j : Nat), j + e = n → Ev (fun k => spec_l05Burn.l2 k d q b (lowB (hotB n es d q) (i + 1) c) (i : Int) (sumB n es i q j) (j : Int) n es) r := by
        intro e
        induction e with
        | zero =>
          intro j hj
          obtain rfl : j = n := by omega
          exact hin _ (sumB_eq j es i j q hq.1 hq.2)
        | succ e ihe =>
          intro j hj
          have hj1 := ihe (j + 1) (by omega)
          refine ev_succ ?_
          simp only [spec_l05Burn.l2]
          have er : rdOf false b (j : Int) = decide ((j : Int) ∈ q) := by rw [← hbq j]; rfl
          rw [er, wrap_succ (by omega)]
          refine ev_ift (by omega) (ev_ift (by omega) (ev_ift (by omega) ?_))
          simp only [sumB] at hj1
          by_cases hc' : (j : Int) ∈ q
          · rw [if_pos hc'] at hj1
            have bnd : ∀ m : Nat, 0 ≤ sumB n es i q m ∧ sumB n es i q m ≤ 12 * m := by
              intro m
              induction m with
              | zero => simp [sumB]
              | succ m ihm =>
                have := multI_b n es i m
                simp only [sumB]
                split <;> omega
            have hb1 := bnd j
            have hb2 := multI_b n es i j
            refine ev_ift (by simp [hc']) (Ev.bind (spec_mult_ev n es (by omega) i j) ?_)
            rw [wrap_id (by omega) (by omega)]
            exact hj1
          · rw [if_neg hc', Int.add_zero] at hj1
            exact ev_ifn (by simp [hc']) hj1
      exact inner n 0 (by omega)
  refine ev_succ ?_
  simp only [spec_l05Burn.l0]
  rw [show wrap64 ((n : Int) - 1) = (n : Int) - 1 by unfold wrap64; omega]
  have := main n 0 (by omega)
  exact this

/-- What burning answers: the vertices that burn; no other would burn next. -/
theorem burn_from (n : Nat) (hn : n ≤ 6) (es : List S70) (hl : es.length ≤ 12) (d : List Int) (hd : d.length = n) :
    ∀ (c : Nat) (q : List Int) (b : List Bool), BInv n q → c + q.length = n → b.length = n → (∀ v : Nat, b.getD v false = decide ((v : Int) ∈ q)) →
      ∃ r, Ev (fun k => impl_burn.l0 k d q n es) r ∧ Ev (fun k => spec_l05Burn.l0 k d q b n es) r ∧ BInv n r ∧ r.take q.length = q ∧ (∀ v : Nat, v < n → hotB n es d r v = false) ∧ ∀ j, q.length ≤ j → j < r.length → hotB n es d (r.take j) (r.getD j 0).toNat = true := by
  intro c
  induction c with
  | zero =>
    intro q b hq hlen hb hbq
    have all : ∀ v : Nat, v < n → (v : Int) ∈ q := by
      intro v hv
      by_cases h : (v : Int) ∈ q
      · exact h
      · have := binv_len (binv_add hq h ⟨by omega, by omega⟩)
        simp at this
        omega
    have cold : ∀ v : Nat, v < n → hotB n es d q v = false := fun v hv => by simp [hotB, all v hv]
    have hlow : lowB (hotB n es d q) 0 n = -1 := by
      rcases lowB_spec (hotB n es d q) n 0 with ⟨h1, _⟩ | ⟨j, _, _, h3, h4⟩
      · exact h1
      · rw [cold j (by omega)] at h4; cases h4
    exact ⟨q, impl_next n hn es hl d q hd hq q (fun _ => rfl) (fun v hv => by omega), spec_next n hn es hl d q b hd hq hb hbq q (fun _ => rfl) (fun v hv => by omega), hq, List.take_length, cold, fun j h1 h2 => by omega⟩
  | succ c ih =>
    intro q b hq hlen hb hbq
    rcases lowB_spec (hotB n es d q) n 0 with ⟨h1, h2⟩ | ⟨j, h1, _, h3, h4⟩
    · exact ⟨q, impl_next n hn es hl d q hd hq q (fun _ => rfl) (fun v hv => by omega), spec_next n hn es hl d q b hd hq hb hbq q (fun _ => rfl) (fun v hv => by omega), hq, List.take_length, fun v hv => h2 v (by omega) (by omega), fun j h1 h2 => by omega⟩
    · have hj : (j : Int) ∉ q := by
        intro h
        simp [hotB, h] at h4
      have hq' := binv_add hq hj ⟨by omega, by omega⟩
      obtain ⟨r, r1, r2, r3, r4, r5, r6⟩ := ih (q ++ [(j : Int)]) (b.set j true) hq' (by simp; omega) (by simpa using hb) (fun v => by
        rw [List.getD_eq_getElem?_getD, List.getElem?_set]
        by_cases e : j = v
        · subst e
          rw [if_pos rfl, if_pos (by omega)]; simp
        · rw [if_neg e, ← List.getD_eq_getElem?_getD, hbq v]
          have : ¬ (v : Int) = j := by omega
          simp [this])
      have hlt : q.length < r.length := by
        have := congrArg List.length r4
        simp at this
        omega
      have hpre : r.take q.length = q := by
        have h := congrArg (List.take q.length) r4
        rw [List.take_take, List.length_append, Nat.min_eq_left (by omega), List.take_left'] at h
        · exact h
        · rfl
      have hat : r.getD q.length 0 = (j : Int) := by
        have h := congrArg (fun x => x.getD q.length 0) r4
        simp only [List.getD_eq_getElem?_getD, List.getElem?_take, List.length_append, List.length_singleton] at h
        rw [if_pos (by omega)] at h
        rw [List.getD_eq_getElem?_getD, h]
        simp
      refine ⟨r, impl_next n hn es hl d q hd hq r (fun h => by omega) (fun v hv => ?_), spec_next n hn es hl d q b hd hq hb hbq r (fun h => by omega) (fun v hv => ?_), r3, hpre, r5, fun i hi1 hi2 => ?_⟩
      · obtain rfl : v = j := by omega
        exact r1
      · obtain rfl : v = j := by omega
        exact r2
      · by_cases e : i = q.length
        · subst e
          rw [hpre, hat, Int.toNat_natCast]; exact h4
        · exact r6 i (by simp; omega) hi2

theorem burn_both (n : Nat) (hn : n ≤ 6) (es : List S70) (hl : es.length ≤ 12) (d : List Int) (hd : d.length = n) (q : Nat) (hq : q < n) :
    ∃ r, Ev (fun k => impl_burn.f k n es d q) r ∧ Ev (fun k => spec_l05Burn.f k n es d q) r ∧ BInv n r ∧ r.take 1 = [(q : Int)] ∧ (∀ v : Nat, v < n → hotB n es d r v = false) ∧ ∀ j, 1 ≤ j → j < r.length → hotB n es d (r.take j) (r.getD j 0).toNat = true := by
  obtain ⟨r, h1, h2, h3, h4, h5, h6⟩ := burn_from n hn es hl d hd (n - 1) [(q : Int)] ((List.replicate n false).set q true) ⟨by simp, fun v hv => by simp at hv; omega⟩ (by simp; omega) (by simp) (fun v => by
    rw [List.getD_eq_getElem?_getD, List.getElem?_set]
    by_cases e : q = v
    · subst e
      rw [if_pos rfl, if_pos (by simpa using hq)]; simp
    · rw [if_neg e]
      have : ¬ (v : Int) = q := by omega
      simp only [List.mem_singleton, this, decide_false, List.getElem?_replicate]
      split <;> rfl)
  refine ⟨r, ?_, ?_, h3, h4, h5, h6⟩
  · simp only [impl_burn.f]; exact h1
  · simp only [spec_l05Burn.f, Option.bind_some]
    refine ev_ift (by omega) (ev_ift (by omega) (ev_ift (by omega) (ev_ift (by simp; omega) ?_)))
    rw [Int.toNat_natCast, Int.toNat_natCast]
    exact h2

theorem burn_mem {r : List Int} {q : Int} (h : r.take 1 = [q]) : q ∈ r := by
  have : q ∈ r.take 1 := by rw [h]; simp
  exact List.mem_of_mem_take this

/-- The program's burning and the reference's two parts of it. -/
theorem burnI (n : Int) (es : List S70) (d : List Int) (v : Int) (hl : es.length < 4611686018427387904) (hd : d.length < 4611686018427387904) :
    ∃ (r : List Int) (q : Bool), Ev (fun k => impl_BurnFrom.f k n es d v) (r, q) ∧ Ev (fun k => spec_l05Ok.f k n es d v) q ∧ r.length ≤ 6 ∧ (q = true ↔ DivP n es d ∧ 0 ≤ v ∧ v < n) ∧ (q = false → r = []) ∧
      (q = true → Ev (fun k => spec_l05Burn.f k n es d v) r ∧ BInv n.toNat r ∧ v ∈ r ∧ ∀ u : Nat, u < n.toNat → hotB n es d r u = false) := by
  obtain ⟨b, h1, h2, hb⟩ := divOk_both n es d hl hd
  obtain ⟨g, h3, h4, hg⟩ := graphOk_both n es hl
  simp only [impl_BurnFrom.f, spec_l05Ok.f, impl_isVertex.f, within_eq, in_eq, Option.bind_some]
  cases b with
  | false =>
    simp only [Bool.false_eq_true, false_iff] at hb
    exact ⟨[], false, Ev.bind h1 (ev_iff (Ev.now _)), Ev.bind h2 (ev_iff (Ev.now _)), by simp, by simp; exact fun h => absurd h hb, fun _ => rfl, fun h => by cases h⟩
  | true =>
    simp only [true_iff] at hb
    have hgt : g = true := hg.2 hb.1
    subst hgt
    obtain ⟨f1, f2, f3, f4⟩ := edgesB_facts hb.1.1
    obtain ⟨m, rfl⟩ : ∃ m : Nat, n = m := ⟨n.toNat, by omega⟩
    have ew : wrap64 ((m : Int) - 1) = (m : Int) - 1 := by unfold wrap64; omega
    rw [ew]
    have hdl : d.length = m := by have := hb.2.1; omega
    by_cases hv : 0 ≤ v ∧ v < m
    · obtain ⟨u, rfl⟩ : ∃ u : Nat, v = u := ⟨v.toNat, by omega⟩
      obtain ⟨r, r1, r2, r3, r4, r5, _⟩ := burn_both m (by omega) es f3 d hdl u (by omega)
      have hlen := binv_len r3
      rw [decide_eq_true (show (0 : Int) ≤ (u : Int) ∧ (u : Int) ≤ (m : Int) - 1 by omega)]
      exact ⟨r, true, Ev.bind h1 (ev_ift rfl (Ev.bind (Ev.bind h3 (ev_ift rfl (Ev.now _))) (ev_ift rfl (Ev.bind r1 (Ev.now _))))), Ev.bind h2 (ev_ift rfl (Ev.now _)), by omega, by simp [hb, hv], (fun h => by cases h), fun _ => ⟨r2, by rw [Int.toNat_natCast]; exact r3, burn_mem r4, by rw [Int.toNat_natCast]; exact r5⟩⟩
    · rw [decide_eq_false (show ¬ ((0 : Int) ≤ v ∧ v ≤ (m : Int) - 1) by omega)]
      exact ⟨[], false, Ev.bind h1 (ev_ift rfl (Ev.bind (Ev.bind h3 (ev_ift rfl (Ev.now _))) (ev_iff (Ev.now _)))), Ev.bind h2 (ev_ift rfl (Ev.now _)), by simp, by simp; intro _ _; omega, fun _ => rfl, fun h => by cases h⟩

end Go.Proofs.Ytnebapnfkolflaa.Pure
end
section
set_option linter.unusedVariables false
set_option linter.unusedSimpArgs false
namespace Go.Proofs.Ytnebapnfkolflaa.Pure
open Go.RowKit Go.Proofs.Ytnebapnfkolflaa.P Go.Proofs.YtnebapnfkolflaaW.PrintWords Go.Proofs.YtnebapnfkolflaaW.PrintLast Go.Proofs.YtnebapnfkolflaaW.PrintMore Go.Proofs.Ytnebapnfkolflaa.Base Go.Proofs.Ytnebapnfkolflaa.Loops

/-- The first place other than q with a debt. -/
def debtF (q : Int) : Nat → List Int → Option Nat
  | _, [] => none
  | i, x :: r => if (i : Int) = q then debtF q (i + 1) r else if x < 0 then some i else debtF q (i + 1) r

def debtI (q : Int) (d : List Int) : Int := match debtF q 0 d with
  | some v => v
  | none => -1

theorem debtF_none (q : Int) : ∀ (l : List Int) (i : Nat), debtF q i l = none → ∀ j, j < l.length → ((i + j : Nat) : Int) ≠ q → 0 ≤ l.getD j 0 := by
  intro l
  induction l with
  | nil => intro i _ j hj; simp at hj
  | cons x r ih =>
    intro i h j hj hne
    simp only [debtF] at h
    cases j with
    | zero =>
      rw [if_neg (by simpa using hne)] at h
      by_cases hx : x < 0
      · rw [if_pos hx] at h; cases h
      · simp; omega
    | succ j =>
      have h' : debtF q (i + 1) r = none := by
        by_cases e : (i : Int) = q
        · rw [if_pos e] at h; exact h
        · rw [if_neg e] at h
          by_cases hx : x < 0
          · rw [if_pos hx] at h; cases h
          · rw [if_neg hx] at h; exact h
      have := ih (i + 1) h' j (by simpa using hj) (by rw [show i + 1 + j = i + (j + 1) by omega]; exact hne)
      simpa using this

theorem debtF_some (q : Int) : ∀ (l : List Int) (i v : Nat), debtF q i l = some v → i ≤ v ∧ v < i + l.length ∧ (v : Int) ≠ q ∧ l.getD (v - i) 0 < 0 := by
  intro l
  induction l with
  | nil => intro i v h; cases h
  | cons x r ih =>
    intro i v h
    have next : debtF q (i + 1) r = some v → i ≤ v ∧ v < i + (x :: r).length ∧ (v : Int) ≠ q ∧ (x :: r).getD (v - i) 0 < 0 := by
      intro h'
      obtain ⟨h1, h2, h3, h4⟩ := ih (i + 1) v h'
      refine ⟨by omega, by simp; omega, h3, ?_⟩
      rw [show v - i = (v - (i + 1)) + 1 by omega]
      simpa using h4
    simp only [debtF] at h
    by_cases e : (i : Int) = q
    · rw [if_pos e] at h; exact next h
    · rw [if_neg e] at h
      by_cases hx : x < 0
      · rw [if_pos hx] at h
        injection h with h
        subst h
        exact ⟨Nat.le_refl _, by simp, e, by simpa using hx⟩
      · rw [if_neg hx] at h; exact next h

theorem inDebt_ev (d : List Int) (q : Int) (hd : d.length < 4611686018427387904) : Ev (fun k => impl_inDebt.f k d q) (debtI q d) := by
  simp only [impl_inDebt.f]
  have main : ∀ (rest : List Int) (i : Nat), i ≤ d.length → d.drop i = rest → Ev (fun k => impl_inDebt.l0 k q d (d.length : Int) (i : Int)) (match debtF q i rest with
      | some v => (v : Int)
      | none => -1) := by
    intro rest
    induction rest with
    | nil =>
      intro i hi hdr
      have := drop_nil hdr
      refine ev1 fun k => ?_
      simp only [impl_inDebt.l0, debtF]
      rw [if_neg (by omega)]
    | cons x r ih =>
      intro i hi hdr
      have hlt := drop_lt hdr
      have h := ih (i + 1) (by omega) (drop_next hdr)
      refine ev_succ ?_
      simp only [impl_inDebt.l0, rd_drop hdr, debtF, wrap_succ (show i < 4611686018427387904 by omega)]
      refine ev_ift (by omega) (ev_ift (by omega) (ev_ift (by omega) ?_))
      by_cases e : (i : Int) = q
      · rw [if_pos e]; exact ev_ift e h
      · rw [if_neg e]
        refine ev_ifn e ?_
        by_cases hx : x < 0
        · rw [if_pos hx]; exact ev_ift hx (Ev.now _)
        · rw [if_neg hx]; exact ev_ifn hx h
  exact main d 0 (by omega) rfl

theorem specDebt_ev (d : List Int) (q : Int) (hd : d.length < 4611686018427387904) : Ev (fun k => spec_l05Debt.f k d q) (debtF q 0 d).isSome := by
  simp only [spec_l05Debt.f]
  have main : ∀ (rest : List Int) (i : Nat), i ≤ d.length → d.drop i = rest → Ev (fun k => spec_l05Debt.l0 k q d (d.length : Int) (i : Int)) (debtF q i rest).isSome := by
    intro rest
    induction rest with
    | nil =>
      intro i hi hdr
      have := drop_nil hdr
      refine ev1 fun k => ?_
      simp only [spec_l05Debt.l0, debtF]
      rw [if_neg (by omega)]; rfl
    | cons x r ih =>
      intro i hi hdr
      have hlt := drop_lt hdr
      have h := ih (i + 1) (by omega) (drop_next hdr)
      refine ev_succ ?_
      simp only [spec_l05Debt.l0, rd_drop hdr, debtF, wrap_succ (show i < 4611686018427387904 by omega)]
      refine ev_ift (by omega) (ev_ift (by omega) (ev_ift (by omega) ?_))
      by_cases e : (i : Int) = q
      · rw [if_pos e]; exact ev_ift e h
      · rw [if_neg e]
        refine ev_ifn e ?_
        by_cases hx : x < 0
        · rw [if_pos hx]; exact ev_ift hx (Ev.now _)
        · rw [if_neg hx]; exact ev_ifn hx h
  exact main d 0 (by omega) rfl

end Go.Proofs.Ytnebapnfkolflaa.Pure
end
section
set_option linter.unusedVariables false
set_option linter.unusedSimpArgs false
namespace Go.Proofs.Ytnebapnfkolflaa.Pure
open Go.RowKit Go.Proofs.Ytnebapnfkolflaa.P Go.Proofs.YtnebapnfkolflaaW.PrintWords Go.Proofs.YtnebapnfkolflaaW.PrintLast Go.Proofs.YtnebapnfkolflaaW.PrintMore Go.Proofs.Ytnebapnfkolflaa.Base Go.Proofs.Ytnebapnfkolflaa.Loops Go.Proofs.Ytnebapnfkolflaa.Bits

/-- The vertices before m that are not in a list. -/
def restL (r : List Int) (m : Nat) : List Int := ((List.range m).map fun i : Nat => (i : Int)).filter fun v => !decide (v ∈ r)

theorem restL_succ (r : List Int) (i : Nat) : restL r (i + 1) = if (i : Int) ∈ r then restL r i else restL r i ++ [(i : Int)] := by
  unfold restL
  rw [List.range_succ, List.map_append, List.filter_append]
  by_cases h : (i : Int) ∈ r
  · simp [h]
  · simp [h]

theorem restL_len (r : List Int) (m : Nat) : (restL r m).length ≤ m := by
  have := List.length_filter_le (fun v : Int => !decide (v ∈ r)) ((List.range m).map fun i : Nat => (i : Int))
  simpa [restL] using this

theorem mostLegal_both (n : Int) (es : List S70) (d : List Int) (v : Int) (hl : es.length < 4611686018427387904) (hd : d.length < 4611686018427387904) :
    ∃ r : List Int, Ev (fun k => impl_MostLegalSet.f k n es d v) r ∧ Ev (fun k => spec_MostLegalSet.f k n es d v) r ∧ r.length ≤ 6 ∧ True := by
  obtain ⟨r, q, h1, h2, h3, h4, h5, h6⟩ := burnI n es d v hl hd
  have i1 := inDebt_ev d v hd
  have i2 := specDebt_ev d v hd
  have o1 : ∀ b : Bool, b = true → Ev (fun k => impl_MostLegalSet.j0 k d r b) [] := fun b hb => ev_succ (by simp only [impl_MostLegalSet.j0]; exact ev_ift hb (Ev.now _))
  have o2 : ∀ b : Bool, b = true → Ev (fun k => spec_MostLegalSet.j0 k d v b n es) [] := fun b hb => ev_succ (by simp only [spec_MostLegalSet.j0]; exact ev_ift hb (Ev.now _))
  unfold debtI at i1
  simp only [impl_MostLegalSet.f, spec_MostLegalSet.f]
  cases q with
  | false => exact ⟨[], Ev.bind h1 (ev_iff (o1 _ rfl)), Ev.bind h2 (ev_iff (o2 _ rfl)), by simp, trivial⟩
  | true =>
    cases hf : debtF v 0 d with
    | some u =>
      rw [hf] at i1 i2
      exact ⟨[], Ev.bind h1 (ev_ift rfl (Ev.bind i1 (o1 _ (by simp)))), Ev.bind h2 (ev_ift rfl (Ev.bind i2 (o2 _ rfl))), by simp, trivial⟩
    | none =>
      rw [hf] at i1 i2
      obtain ⟨b1, b2, _, _⟩ := h6 rfl
      have hD := (h4.1 rfl).1
      obtain ⟨f1, f2, f3, f4⟩ := edgesB_facts hD.1.1
      obtain ⟨m, rfl⟩ : ∃ m : Nat, n = m := ⟨n.toNat, by omega⟩
      have hdl : d.length = m := by have := hD.2.1; omega
      have m1 : ∀ (c i : Nat), i + c = m → Ev (fun k => impl_MostLegalSet.l0 k r (restL r i) (d.length : Int) (i : Int)) (restL r m) := by
        intro c
        induction c with
        | zero =>
          intro i hi
          obtain rfl : i = m := by omega
          refine ev_succ ?_
          simp only [impl_MostLegalSet.l0]
          exact ev_ifn (by omega) (Ev.now _)
        | succ c ih =>
          intro i hi
          have hn := ih (i + 1) (by omega)
          have hlen := restL_len r i
          rw [restL_succ] at hn
          refine ev_succ ?_
          simp only [impl_MostLegalSet.l0, wrap_succ (show i < 4611686018427387904 by omega)]
          refine ev_ift (by omega) (Ev.bind (contains_ev r i (by omega)) ?_)
          by_cases hm : (i : Int) ∈ r
          · rw [if_pos hm] at hn
            exact ev_ift (by simp [hm]) hn
          · rw [if_neg hm] at hn
            exact ev_ifn (by simp [hm]) (ev_ift (by omega) hn)
      have m2 : ∀ (c i : Nat), i + c = m → Ev (fun k => spec_MostLegalSet.l0 k r (restL r i) (i : Int) (m : Int) es) (restL r m) := by
        intro c
        induction c with
        | zero =>
          intro i hi
          obtain rfl : i = m := by omega
          refine ev_succ ?_
          simp only [spec_MostLegalSet.l0]
          exact ev_ifn (by omega) (Ev.now _)
        | succ c ih =>
          intro i hi
          have hn := ih (i + 1) (by omega)
          have hlen := restL_len r i
          rw [restL_succ] at hn
          refine ev_succ ?_
          simp only [spec_MostLegalSet.l0, wrap_succ (show i < 4611686018427387904 by omega)]
          refine ev_ift (by omega) (Ev.bind (has_ev r i (by omega)) ?_)
          by_cases hm : (i : Int) ∈ r
          · rw [if_pos hm] at hn
            exact ev_ift (by simp [hm]) hn
          · rw [if_neg hm] at hn
            exact ev_ifn (by simp [hm]) (ev_ift (by omega) hn)
      have hlen := restL_len r m
      refine ⟨restL r m, Ev.bind h1 (ev_ift rfl (Ev.bind i1 (ev_succ ?_))), Ev.bind h2 (ev_ift rfl (Ev.bind i2 (ev_succ ?_))), by omega, trivial⟩
      · simp only [impl_MostLegalSet.j0]
        exact ev_ifn (by simp) (m1 m 0 (by omega))
      · simp only [spec_MostLegalSet.j0]
        exact ev_ifn (by simp) (Ev.bind b1 (m2 m 0 (by omega)))

end Go.Proofs.Ytnebapnfkolflaa.Pure
end
section
set_option linter.unusedVariables false
set_option linter.unusedSimpArgs false
namespace Go.Proofs.Ytnebapnfkolflaa.Pure
open Go.RowKit Go.Proofs.Ytnebapnfkolflaa.P Go.Proofs.YtnebapnfkolflaaW.PrintWords Go.Proofs.YtnebapnfkolflaaW.PrintLast Go.Proofs.YtnebapnfkolflaaW.PrintMore Go.Proofs.Ytnebapnfkolflaa.Base Go.Proofs.Ytnebapnfkolflaa.Loops

/-- The marks m, m + 1, .. -/
def mkI (m : Int) (n : Nat) : List Int := (List.range n).map fun i : Nat => m + (i : Int)

theorem mkI_length (m : Int) (n : Nat) : (mkI m n).length = n := by simp [mkI]

theorem mkI_drop {m : Int} {n i : Nat} (h : i < n) : (mkI m n).drop i = (m + (i : Int)) :: (mkI m n).drop (i + 1) := by
  rw [List.drop_eq_getElem_cons (by rw [mkI_length]; exact h)]
  simp [mkI]

theorem markIntS_ev (m : Int) (h0 : 0 ≤ m) (l : List Int) (hl : m + l.length < 2305843009213693952) : Ev (fun k => laws_markIntS.f k l m) (m + (l.length : Int), mkI m l.length) := by
  have main : ∀ (d k i : Nat) (x : List Int), i + d = l.length → x.length = l.length → x.take i = (mkI m l.length).take i → d < k → laws_markIntS.l0 k x (m + (i : Int)) (i : Int) = some (m + (l.length : Int), mkI m l.length) := by
    intro d
    induction d with
    | zero =>
      intro k i x hi hx ht hk
      obtain ⟨k, rfl⟩ := succ_of_lt hk
      have e : i = l.length := by omega
      subst e
      have ex : x = mkI m l.length := fill_end (by rw [mkI_length]; exact hx) (by rw [mkI_length]; exact ht)
      simp only [laws_markIntS.l0]
      rw [if_neg (by omega), ex]
    | succ d ih =>
      intro k i x hi hx ht hk
      obtain ⟨k, rfl⟩ := succ_of_lt hk
      simp only [laws_markIntS.l0]
      rw [if_pos (by omega), if_pos (by omega), wrap_succ (by omega), show wrap64 (m + (i : Int) + 1) = m + ((i + 1 : Nat) : Int) by unfold wrap64; omega, Int.toNat_natCast]
      exact ih k (i + 1) _ (by omega) (by simpa using hx) (fill_step (by rw [mkI_length]; exact hx) ht (mkI_drop (by omega))) (by omega)
  refine ev_k l.length fun k hk => ?_
  unfold laws_markIntS.f
  have h := main l.length k 0 l (by omega) rfl (by simp) hk
  rw [show m + ((0 : Nat) : Int) = m by omega] at h
  exact h

theorem heldIntS_ev (n : Nat) (hn : n < 2305843009213693952) : Ev (fun k => laws_heldIntS.f k (mkI 1 n) 1) (1 + (n : Int)) := by
  have main : ∀ (d k i : Nat), i + d = n → d < k → laws_heldIntS.l0 k (mkI 1 n) (1 + (i : Int)) (i : Int) = some (1 + (n : Int)) := by
    intro d
    induction d with
    | zero =>
      intro k i hi hk
      obtain ⟨k, rfl⟩ := succ_of_lt hk
      simp only [laws_heldIntS.l0, mkI_length]
      rw [if_neg (by omega), show (i : Int) = n by omega]
    | succ d ih =>
      intro k i hi hk
      obtain ⟨k, rfl⟩ := succ_of_lt hk
      simp only [laws_heldIntS.l0, mkI_length, rd_drop (mkI_drop (show i < n by omega))]
      rw [if_pos (by omega), if_pos (by omega), wrap_succ (by omega), show wrap64 (1 + (i : Int) + 1) = 1 + ((i + 1 : Nat) : Int) by unfold wrap64; omega]
      simp only [if_true]
      exact ih k (i + 1) (by omega) (by omega)
  refine ev_k n fun k hk => ?_
  unfold laws_heldIntS.f
  have h := main n k 0 (by omega) hk
  rw [show (1 : Int) + ((0 : Nat) : Int) = 1 by omega] at h
  exact h


end Go.Proofs.Ytnebapnfkolflaa.Pure
end
section
set_option linter.unusedVariables false
set_option linter.unusedSimpArgs false
namespace Go.Proofs.Ytnebapnfkolflaa.Pure
open Go.RowKit Go.Proofs.Ytnebapnfkolflaa.P Go.Proofs.YtnebapnfkolflaaW.PrintWords Go.Proofs.YtnebapnfkolflaaW.PrintLast Go.Proofs.YtnebapnfkolflaaW.PrintMore Go.Proofs.Ytnebapnfkolflaa.Base Go.Proofs.Ytnebapnfkolflaa.Loops

theorem markGraph_ev (n : Int) (l : List S70) (hl : l.length < 2305843009213693952) : ∃ y, Ev (fun k => laws_markGraph.f k n l 1) (2 * (l.length : Int) + 1, y) := by
  have main : ∀ (d i : Nat) (x : List S70), i + d = l.length → x.length = l.length → ∃ y, ∀ k, d < k → laws_markEdgeS.l0 k x (2 * (i : Int) + 1) (i : Int) = some (2 * (l.length : Int) + 1, y) := by
    intro d
    induction d with
    | zero =>
      intro i x hi hx
      refine ⟨x, fun k hk => ?_⟩
      obtain ⟨k, rfl⟩ := succ_of_lt hk
      simp only [laws_markEdgeS.l0]
      rw [if_neg (by omega), show (i : Int) = l.length by omega]
    | succ d ih =>
      intro i x hi hx
      obtain ⟨y, hy⟩ := ih (i + 1) ((x.set i (⟨2 * (i : Int) + 1, (rd_T70 x i).f1⟩ : S70)).set i (⟨(rd_T70 (x.set i (⟨2 * (i : Int) + 1, (rd_T70 x i).f1⟩ : S70)) i).f0, wrap64 (2 * (i : Int) + 1 + 1)⟩ : S70)) (by omega) (by simpa using hx)
      refine ⟨y, fun k hk => ?_⟩
      obtain ⟨k, rfl⟩ := succ_of_lt hk
      simp only [laws_markEdgeS.l0, Option.bind_some]
      rw [if_pos (by omega), if_pos (by omega), wrap_succ (by omega), show wrap64 (wrap64 (2 * (i : Int) + 1 + 1) + 1) = 2 * ((i + 1 : Nat) : Int) + 1 by unfold wrap64; omega, Int.toNat_natCast]
      exact hy k (by omega)
  obtain ⟨y, hy⟩ := main l.length 0 l (by omega) rfl
  refine ⟨y, l.length + 1, fun k hk => ?_⟩
  dsimp only [laws_markGraph.f, laws_markEdgeS.f]
  rw [show (1 : Int) = 2 * ((0 : Nat) : Int) + 1 from rfl, show (0 : Int) = ((0 : Nat) : Int) from rfl, hy k (by omega)]
  rfl

end Go.Proofs.Ytnebapnfkolflaa.Pure
end
section
set_option linter.unusedVariables false
set_option linter.unusedSimpArgs false
namespace Go.Proofs.Ytnebapnfkolflaa.Pure
open Go.RowKit Go.Proofs.Ytnebapnfkolflaa.P Go.Proofs.YtnebapnfkolflaaW.PrintWords Go.Proofs.YtnebapnfkolflaaW.PrintLast Go.Proofs.YtnebapnfkolflaaW.PrintMore Go.Proofs.Ytnebapnfkolflaa.Base Go.Proofs.Ytnebapnfkolflaa.Loops Go.Proofs.Ytnebapnfkolflaa.Bits

theorem FnExactMostLegalSet : StatFnExactMostLegalSet := by
  intro n l d1 i2 ⟨_, hl, _⟩ ⟨_, _⟩ _
  refine Ev.rounds (r := true) ?_
  unfold laws_FnExactMostLegalSet.f
  by_cases hd1 : (d1.length : Int) > 1048576
  · repeat (first
      | exact Ev.now _
      | dsimp only
      | with_reducible refine ev_ift (by first | rfl | omega) ?_
      | with_reducible refine ev_ifn (by omega) ?_
      | with_reducible refine ev_ifb ?_
      | with_reducible refine ev_ifnn ?_
      | with_reducible refine ev_iff ?_
      | (refine ev_succ ?_; simp only [if_true, laws_FnExactMostLegalSet.j0, laws_FnExactMostLegalSet.j1, laws_FnExactMostLegalSet.j2, laws_FnExactMostLegalSet.j3, laws_FnExactMostLegalSet.j4, laws_FnExactMostLegalSet.j5, laws_FnExactMostLegalSet.j6, laws_FnExactMostLegalSet.j7, laws_FnExactMostLegalSet.j8, laws_FnExactMostLegalSet.j9, laws_FnExactMostLegalSet.j10])
      )
  have hs := szGraph_eq n l hl 1048576 (by omega) (by omega)
  by_cases h : (l.length : Int) ≤ 1048576
  · have es : Ev (fun _ : Nat => laws_szGraph.f n l 1048576) (1048576 - (l.length : Int)) := ev_const fun _ => by rw [hs, if_pos h]
    have tg := toGraph_ev n l (by omega)
    have hm := map_cv_length l
    have hL : (l.map cvE).length < 4611686018427387904 := by omega
    have hLd1 : d1.length < 4611686018427387904 := by omega
    have td1 := toIntS_ev d1 (by omega)
    have ed1 := eqIntS_ev d1 hLd1
    obtain ⟨r, g1, g2, hr, _⟩ := mostLegal_both n (l.map cvE) d1 i2 hL hLd1
    have eg := eqGraph_ev n (l.map cvE) hL
    have er := eqIntS_ev r (by omega)
    obtain ⟨y, my⟩ := markGraph_ev n (l.map cvE) (by omega)
    have md1 := markIntS_ev (2 * ((l.map cvE).length : Int) + 1) (by omega) d1 (by omega)
    have mr := markIntS_ev 1 (by omega) r (by omega)
    have he := heldIntS_ev r.length (by omega)
    repeat (first
      | exact Ev.now _
      | dsimp only
      | (with_reducible refine Ev.bind es ?_) | (with_reducible refine Ev.bind tg ?_) | (with_reducible refine Ev.bind td1 ?_) | (with_reducible refine Ev.bind ed1 ?_) | (with_reducible refine Ev.bind g1 ?_) | (with_reducible refine Ev.bind g2 ?_) | (with_reducible refine Ev.bind eg ?_) | (with_reducible refine Ev.bind er ?_) | (with_reducible refine Ev.bind my ?_) | (with_reducible refine Ev.bind md1 ?_) | (with_reducible refine Ev.bind mr ?_) | (with_reducible refine Ev.bind he ?_)
      | with_reducible refine ev_ift (by first | rfl | omega) ?_
      | with_reducible refine ev_ifn (by omega) ?_
      | with_reducible refine ev_ifb ?_
      | with_reducible refine ev_ifnn ?_
      | with_reducible refine ev_iff ?_
      | (refine ev_succ ?_; simp only [if_true, laws_FnExactMostLegalSet.j0, laws_FnExactMostLegalSet.j1, laws_FnExactMostLegalSet.j2, laws_FnExactMostLegalSet.j3, laws_FnExactMostLegalSet.j4, laws_FnExactMostLegalSet.j5, laws_FnExactMostLegalSet.j6, laws_FnExactMostLegalSet.j7, laws_FnExactMostLegalSet.j8, laws_FnExactMostLegalSet.j9, laws_FnExactMostLegalSet.j10])
      )
  · have es : Ev (fun _ : Nat => laws_szGraph.f n l 1048576) (-1) := ev_const fun _ => by rw [hs, if_neg h]
    repeat (first
      | exact Ev.now _
      | dsimp only
      | (with_reducible refine Ev.bind es ?_)
      | with_reducible refine ev_ift (by first | rfl | omega) ?_
      | with_reducible refine ev_ifn (by omega) ?_
      | with_reducible refine ev_ifb ?_
      | with_reducible refine ev_ifnn ?_
      | with_reducible refine ev_iff ?_
      | (refine ev_succ ?_; simp only [if_true, laws_FnExactMostLegalSet.j0, laws_FnExactMostLegalSet.j1, laws_FnExactMostLegalSet.j2, laws_FnExactMostLegalSet.j3, laws_FnExactMostLegalSet.j4, laws_FnExactMostLegalSet.j5, laws_FnExactMostLegalSet.j6, laws_FnExactMostLegalSet.j7, laws_FnExactMostLegalSet.j8, laws_FnExactMostLegalSet.j9, laws_FnExactMostLegalSet.j10])
      )

end Go.Proofs.Ytnebapnfkolflaa.Pure
end
