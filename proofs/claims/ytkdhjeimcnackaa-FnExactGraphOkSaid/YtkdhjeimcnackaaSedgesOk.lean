/- Lemmas on what the program's functions compute (edgesOk). -/
import Derived.Test.YtkdhjeimcnackaaPx14
import Derived.Test.YtkdhjeimcnackaaPx15
import Derived.Test.YtkdhjeimcnackaaPx16
import Derived.Test.YtkdhjeimcnackaaPx17
import Derived.Test.YtkdhjeimcnackaaPx0
import Derived.Test.YtkdhjeimcnackaaBase
import Derived.Test.YtkdhjeimcnackaaLoops
import Derived.Test.YtkdhjeimcnackaaSgraphin
set_option linter.unusedVariables false
set_option linter.unusedSimpArgs false
namespace Go.Proofs.Ytkdhjeimcnackaa.Pure
open Go.RowKit Go.Proofs.Ytkdhjeimcnackaa.P Go.Proofs.YtkdhjeimcnackaaW.PrintWords Go.Proofs.YtkdhjeimcnackaaW.PrintLast Go.Proofs.YtkdhjeimcnackaaW.PrintMore Go.Proofs.Ytkdhjeimcnackaa.Base Go.Proofs.Ytkdhjeimcnackaa.Loops

/-- What EdgesOk tells. -/
def edgesB (n : Int) (es : List S57) : Bool := decide (1 ≤ n) && decide (n ≤ 6) && decide (es.length ≤ 12) && es.all fun e => decide (0 ≤ e.f0) && decide (e.f0 < e.f1) && decide (e.f1 < n)

theorem impl_edgesOk_ev (n : Int) (es : List S57) (hl : es.length < 4611686018427387904) : Ev (fun k => impl_EdgesOk.f k n es) (edgesB n es) := by
  have hw : impl_within.f n 1 6 = some (decide (1 ≤ n) && decide (n ≤ 6)) := by
    unfold impl_within.f
    by_cases h : n ≥ 1
    · rw [if_pos h]; simp [h]
    · rw [if_neg h]; simp [h]
  simp only [impl_EdgesOk.f, hw, Option.bind_some]
  by_cases hn : 1 ≤ n ∧ n ≤ 6
  · by_cases h12 : es.length ≤ 12
    · have loop : Ev (fun k => impl_EdgesOk.l0 k es (es.length : Int) 0 n es) (es.all fun e => decide (0 ≤ e.f0) && decide (e.f0 < e.f1) && decide (e.f1 < n)) := by
        refine ev_list0 es (fun k (_ : Unit) i => impl_EdgesOk.l0 k es (es.length : Int) i n es) (fun _ r => r.all fun e => decide (0 ≤ e.f0) && decide (e.f0 < e.f1) && decide (e.f1 < n)) (fun _ _ => True)
          (fun s _ => ev1 fun k => ?_) (fun s a rest i hlt hd _ => ?_) () trivial
        · simp only [impl_EdgesOk.l0]
          rw [if_neg (by omega)]; rfl
        · by_cases h1 : a.f0 < 0
          · refine Or.inl (ev1 fun k => ?_)
            simp only [impl_EdgesOk.l0, rd_IE hd]
            rw [if_pos (by omega), if_pos (by omega), if_pos (by omega), if_pos h1]
            simp; omega
          by_cases h2 : a.f0 ≥ a.f1
          · refine Or.inl (ev1 fun k => ?_)
            simp only [impl_EdgesOk.l0, rd_IE hd]
            rw [if_pos (by omega), if_pos (by omega), if_pos (by omega), if_neg h1, if_pos h2]
            simp; omega
          by_cases h3 : a.f1 ≥ n
          · refine Or.inl (ev1 fun k => ?_)
            simp only [impl_EdgesOk.l0, rd_IE hd]
            rw [if_pos (by omega), if_pos (by omega), if_pos (by omega), if_neg h1, if_neg h2, if_pos h3]
            simp; omega
          refine Or.inr ⟨(), trivial, ?_, 0, fun k _ => ?_⟩
          · simp; omega
          · simp only [impl_EdgesOk.l0, rd_IE hd]
            rw [if_pos (by omega), if_pos (by omega), if_pos (by omega), if_neg h1, if_neg h2, if_neg h3, wrap_succ (by omega)]
      obtain ⟨K, hK⟩ := loop
      dsimp only at hK
      refine ⟨K + 1, fun k hk => ?_⟩
      obtain ⟨m, rfl⟩ : ∃ m, k = m + 1 := ⟨k - 1, by omega⟩
      have := hK m (by omega)
      simp only [hn.1, hn.2, decide_true, Bool.and_self, if_true, impl_EdgesOk.j0]
      rw [if_neg (by simp; omega), this]
      simp [edgesB, hn, h12]
    · refine ev1 fun k => ?_
      simp only [hn.1, hn.2, decide_true, Bool.and_self, if_true, impl_EdgesOk.j0]
      rw [if_pos (by simp; omega)]
      simp [edgesB, h12]
  · refine ev1 fun k => ?_
    rw [if_neg (by simp; omega)]
    simp only [impl_EdgesOk.j0, if_true]
    simp [edgesB]
    intro a b
    exact absurd ⟨a, b⟩ hn

theorem spec_edgesOk_ev (n : Int) (es : List S57) (hl : es.length < 4611686018427387904) : Ev (fun k => spec_EdgesOk.f k n es) (edgesB n es) := by
  have hw : ∀ a b c : Int, spec_l01In.f a b c = some (decide (b ≤ a) && decide (a ≤ c)) := by
    intro a b c
    unfold spec_l01In.f
    by_cases h : a ≥ b
    · rw [if_pos h]; simp [h]
    · rw [if_neg h]; simp [h]
  simp only [spec_EdgesOk.f, hw, Option.bind_some]
  by_cases hn : 1 ≤ n ∧ n ≤ 6
  · have hn1 : wrap64 (n - 1) = n - 1 := by unfold wrap64; omega
    by_cases h12 : es.length ≤ 12
    · have loop : Ev (fun k => spec_EdgesOk.l0 k es (es.length : Int) 0 n es) (es.all fun e => decide (0 ≤ e.f0) && decide (e.f0 < e.f1) && decide (e.f1 < n)) := by
        refine ev_list0 es (fun k (_ : Unit) i => spec_EdgesOk.l0 k es (es.length : Int) i n es) (fun _ r => r.all fun e => decide (0 ≤ e.f0) && decide (e.f0 < e.f1) && decide (e.f1 < n)) (fun _ _ => True)
          (fun s _ => ev1 fun k => ?_) (fun s a rest i hlt hd _ => ?_) () trivial
        · simp only [spec_EdgesOk.l0]
          rw [if_neg (by omega)]; rfl
        · by_cases h1 : 0 ≤ a.f0 ∧ a.f0 ≤ n - 1
          · have e1 : wrap64 (a.f0 + 1) = a.f0 + 1 := by unfold wrap64; omega
            by_cases h2 : a.f0 + 1 ≤ a.f1 ∧ a.f1 ≤ n - 1
            · refine Or.inr ⟨(), trivial, ?_, 0, fun k _ => ?_⟩
              · simp; omega
              · simp only [spec_EdgesOk.l0, rd_IE hd, hw, hn1, e1, Option.bind_some]
                rw [if_pos (by omega), if_pos (by omega), if_pos (by omega), if_pos (by simp; omega), if_pos (by simp; omega), wrap_succ (by omega)]
            · refine Or.inl (ev1 fun k => ?_)
              simp only [spec_EdgesOk.l0, rd_IE hd, hw, hn1, e1, Option.bind_some]
              rw [if_pos (by omega), if_pos (by omega), if_pos (by omega), if_pos (by simp; omega), if_neg (by simp; omega)]
              simp; omega
          · refine Or.inl (ev1 fun k => ?_)
            simp only [spec_EdgesOk.l0, rd_IE hd, hw, hn1, Option.bind_some]
            rw [if_pos (by omega), if_pos (by omega), if_pos (by omega), if_neg (by simp; omega)]
            simp; omega
      obtain ⟨K, hK⟩ := loop
      dsimp only at hK
      refine ⟨K + 1, fun k hk => ?_⟩
      obtain ⟨m, rfl⟩ : ∃ m, k = m + 1 := ⟨k - 1, by omega⟩
      have := hK m (by omega)
      simp only [hn.1, hn.2, decide_true, Bool.and_self, if_true, spec_EdgesOk.j0]
      rw [if_neg (by simp; omega), this]
      simp [edgesB, hn, h12]
    · refine ev1 fun k => ?_
      simp only [hn.1, hn.2, decide_true, Bool.and_self, if_true, spec_EdgesOk.j0]
      rw [if_pos (by simp; omega)]
      simp [edgesB, h12]
  · refine ev1 fun k => ?_
    rw [if_neg (by simp; omega)]
    simp only [spec_EdgesOk.j0, if_true]
    simp [edgesB]
    intro a b
    exact absurd ⟨a, b⟩ hn

end Go.Proofs.Ytkdhjeimcnackaa.Pure
