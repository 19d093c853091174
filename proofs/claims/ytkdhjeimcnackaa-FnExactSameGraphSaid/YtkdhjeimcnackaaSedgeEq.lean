/- Lemmas on what the program's functions compute (edgeEq). -/
import Derived.Test.YtkdhjeimcnackaaPx0
import Derived.Test.YtkdhjeimcnackaaBase
import Derived.Test.YtkdhjeimcnackaaLoops
import Derived.Test.YtkdhjeimcnackaaSgraphin
set_option linter.unusedVariables false
set_option linter.unusedSimpArgs false
namespace Go.Proofs.Ytkdhjeimcnackaa.Pure
open Go.RowKit Go.Proofs.Ytkdhjeimcnackaa.P Go.Proofs.YtkdhjeimcnackaaW.PrintWords Go.Proofs.YtkdhjeimcnackaaW.PrintLast Go.Proofs.YtkdhjeimcnackaaW.PrintMore Go.Proofs.Ytkdhjeimcnackaa.Base Go.Proofs.Ytkdhjeimcnackaa.Loops

theorem ne_IE (a b : S57) : ((!(a.f0 == b.f0) || (!(a.f1 == b.f1))) = true) ↔ a ≠ b := by
  cases a; cases b
  simp
  omega

theorem eqE_ends (l x : List S57) (hlx : l.length = x.length) (g : Nat → Int → Option Bool)
    (hg : ∀ k i, g (k + 1) i = if i < (l.length : Int) then (if 0 ≤ i then (if i < (l.length : Int) then (if i < (x.length : Int) then (if (!(((rd_T57 l i).f0) == ((rd_T57 x i).f0)) || (!(((rd_T57 l i).f1) == ((rd_T57 x i).f1)))) = true then some false else g k (wrap64 (i + 1))) else none) else none) else none) else some true)
    (hl : l.length < 4611686018427387904) : ∃ b : Bool, Ev (fun k => g k 0) b ∧ (b = true ↔ l = x) := by
  have main : ∀ (rest : List S57) (i : Nat), i ≤ l.length → l.drop i = rest → ∃ b : Bool, Ev (fun k => g k (i : Int)) b ∧ (b = true ↔ rest = x.drop i) := by
    intro rest
    induction rest with
    | nil =>
      intro i hi hd
      have := drop_nil hd
      refine ⟨true, ev1 fun k => ?_, ?_⟩
      · rw [hg, if_neg (by omega)]
      · rw [List.drop_of_length_le (by omega)]; simp
    | cons a rest ih =>
      intro i hi hd
      have hlt := drop_lt hd
      have hdx := List.drop_eq_getElem_cons (l := x) (i := i) (by omega)
      by_cases hc : a = x[i]'(by omega)
      · obtain ⟨b, ⟨K, hb⟩, hiff⟩ := ih (i + 1) (by omega) (drop_next hd)
        refine ⟨b, ⟨K + 1, fun k hk => ?_⟩, ?_⟩
        · obtain ⟨m, rfl⟩ : ∃ m, k = m + 1 := ⟨k - 1, by omega⟩
          have h2 := hb m (by omega)
          dsimp only at h2 ⊢
          rw [hg, if_pos (by omega), if_pos (by omega), if_pos (by omega), if_pos (by omega), rd_IE hd, rd_IE hdx, if_neg (by rw [ne_IE]; exact fun h => h hc), wrap_succ (by omega), h2]
        · rw [hiff, hdx, hc]
          exact ⟨fun h => by rw [h], fun h => (List.cons.inj h).2⟩
      · refine ⟨false, ev1 fun k => ?_, ?_⟩
        · rw [hg, if_pos (by omega), if_pos (by omega), if_pos (by omega), if_pos (by omega), rd_IE hd, rd_IE hdx, if_pos ((ne_IE _ _).2 hc)]
        · rw [hdx]
          exact ⟨fun h => (by cases h), fun h => absurd (List.cons.inj h).1 hc⟩
  obtain ⟨b, hb, hiff⟩ := main l 0 (by omega) rfl
  exact ⟨b, hb, by simpa using hiff⟩

end Go.Proofs.Ytkdhjeimcnackaa.Pure
