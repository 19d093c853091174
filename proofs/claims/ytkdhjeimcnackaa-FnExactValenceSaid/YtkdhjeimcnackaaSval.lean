/- Lemmas on what the program's functions compute (val). -/
import Derived.Test.YtkdhjeimcnackaaPx19
import Derived.Test.YtkdhjeimcnackaaPx23
import Derived.Test.YtkdhjeimcnackaaPx24
import Derived.Test.YtkdhjeimcnackaaPx0
import Derived.Test.YtkdhjeimcnackaaBase
import Derived.Test.YtkdhjeimcnackaaLoops
import Derived.Test.YtkdhjeimcnackaaSgraphin
set_option linter.unusedVariables false
set_option linter.unusedSimpArgs false
namespace Go.Proofs.Ytkdhjeimcnackaa.Pure
open Go.RowKit Go.Proofs.Ytkdhjeimcnackaa.P Go.Proofs.YtkdhjeimcnackaaW.PrintWords Go.Proofs.YtkdhjeimcnackaaW.PrintLast Go.Proofs.YtkdhjeimcnackaaW.PrintMore Go.Proofs.Ytkdhjeimcnackaa.Base Go.Proofs.Ytkdhjeimcnackaa.Loops

/-- The number of edges at a vertex. -/
def valN (es : List S57) (v : Int) : Nat := es.countP fun e => decide (e.f0 = v) || decide (e.f1 = v)

def valI (n : Int) (es : List S57) (v : Int) : Int := if 0 ≤ v ∧ v < n then (valN es v : Int) else 0

theorem val_loop (es : List S57) (hl : es.length < 4611686018427387904) (v : Int) (g : Nat → Int → Int → Option Int)
    (hg : ∀ k c i, g (k + 1) c i = if i < (es.length : Int) then (if 0 ≤ i then (if i < (es.length : Int) then (if ((rd_T57 es i).f0) = v then (g k (wrap64 (c + 1)) (wrap64 (i + 1))) else (if ((rd_T57 es i).f1) = v then (g k (wrap64 (c + 1)) (wrap64 (i + 1))) else (g k c (wrap64 (i + 1))))) else (none)) else (none)) else (some c)) :
    Ev (fun k => g k 0 0) (valN es v : Int) := by
  have h := ev_list es (fun k (c : Int) i => g k c i) (fun c r => c + (r.countP fun e => decide (e.f0 = v) || decide (e.f1 = v) : Nat)) (fun c r => 0 ≤ c ∧ c + r.length ≤ es.length) (fun s _ => ev1 fun k => ?_) (fun s e rest i hlt hd hinv => Or.inr ?_) es 0 0 (by omega) rfl (by simp)
  · simpa [valN] using h
  · rw [hg, if_neg (by omega)]; simp
  · simp only [List.length_cons] at hinv
    by_cases hc : e.f0 = v ∨ e.f1 = v
    · refine ⟨s + 1, by omega, ?_, 0, fun k _ => ?_⟩
      · rw [List.countP_cons_of_pos (by simp [hc])]; omega
      · rw [hg, if_pos (by omega), if_pos (by omega), if_pos (by omega), rd_IE hd, wrap_succ (by omega), wrap_id (by omega) (by omega)]
        by_cases h1 : e.f0 = v
        · rw [if_pos h1]
        · rw [if_neg h1, if_pos (by omega)]
    · refine ⟨s, by omega, ?_, 0, fun k _ => ?_⟩
      · rw [List.countP_cons_of_neg (by simp; omega)]
      · rw [hg, if_pos (by omega), if_pos (by omega), if_pos (by omega), rd_IE hd, wrap_succ (by omega), if_neg (by omega), if_neg (by omega)]

theorem spec_val_ev (n : Int) (es : List S57) (hl : es.length < 4611686018427387904) (v : Int) : Ev (fun k => spec_Valence.f k n es v) (valI n es v) := by
  have hv : spec_l02Vert.f n es v = some (decide (0 ≤ v ∧ v < n)) := by
    unfold spec_l02Vert.f
    by_cases h : v ≥ 0
    · rw [if_pos h]; simp; omega
    · rw [if_neg h]; simp; omega
  simp only [spec_Valence.f, hv, Option.bind_some]
  by_cases h : 0 ≤ v ∧ v < n
  · simp only [h, and_self, decide_true, if_true]
    rw [valI, if_pos h]
    exact val_loop es hl v (fun k c i => spec_Valence.l0 k v c es (es.length : Int) i) (fun k c i => by simp only [spec_Valence.l0])
  · simp only [decide_eq_true_eq, if_neg h]
    rw [valI, if_neg h]
    exact Ev.now _

theorem impl_val_ev (n : Int) (es : List S57) (hl : es.length < 4611686018427387904) (v : Int) : Ev (fun k => impl_Valence.f k n es v) (valI n es v) := by
  simp only [impl_Valence.f]
  have off : ∀ q : Bool, q = true → Ev (fun k => impl_Valence.j0 k v q n es) 0 := fun q hq => ev1 fun k => by
    simp only [impl_Valence.j0, hq, if_true]
  by_cases h1 : v < 0
  · simp only [if_pos h1]
    rw [valI, if_neg (by omega)]
    exact off _ rfl
  · simp only [if_neg h1]
    by_cases h2 : v ≥ n
    · rw [valI, if_neg (by omega)]
      exact off _ (by simp; omega)
    · rw [valI, if_pos (by omega)]
      obtain ⟨K, hK⟩ := val_loop es hl v (fun k c i => impl_Valence.l0 k v c es (es.length : Int) i) (fun k c i => by simp only [impl_Valence.l0])
      refine ⟨K + 1, fun k hk => ?_⟩
      obtain ⟨m, rfl⟩ : ∃ m, k = m + 1 := ⟨k - 1, by omega⟩
      have h2 := hK m (by omega)
      dsimp only at h2 ⊢
      simp only [impl_Valence.j0]
      rw [if_neg (by simp; omega), h2]

end Go.Proofs.Ytkdhjeimcnackaa.Pure
