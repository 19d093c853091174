/- Small lemmas on the words of the printed functions: reading an element, one step of a counter, answers from some number of rounds on. -/
import Derived.Test.YtnebapnfkolflaaWMore
set_option autoImplicit false
namespace Go.Proofs.Ytnebapnfkolflaa.Base
open Go.RowKit Go.Proofs.YtnebapnfkolflaaW.PrintWords Go.Proofs.YtnebapnfkolflaaW.PrintLast Go.Proofs.YtnebapnfkolflaaW.PrintMore

theorem wrap_succ {i : Nat} (h : i < 4611686018427387904) : wrap64 ((i : Int) + 1) = ((i + 1 : Nat) : Int) := by
  unfold wrap64; omega

theorem wrap_id {i : Int} (h0 : -9223372036854775808 ≤ i) (h1 : i < 9223372036854775808) : wrap64 i = i := by
  unfold wrap64; omega

theorem wrap_wrap_add (a b : Int) : wrap64 (wrap64 a + b) = wrap64 (a + b) := by
  unfold wrap64; omega

theorem wrap_add_wrap (a b : Int) : wrap64 (a + wrap64 b) = wrap64 (a + b) := by
  unfold wrap64; omega

theorem wrap_wrap (a : Int) : wrap64 (wrap64 a) = wrap64 a := by
  unfold wrap64; omega

theorem rd_nat (l : List Int) (i : Nat) (h : i < l.length) : rd l (i : Int) = l[i] := by
  unfold rd; simp [h]

theorem rd_drop {l : List Int} {i : Nat} {a : Int} {r : List Int} (h : l.drop i = a :: r) : rd l (i : Int) = a := by
  have hlt : i < l.length := by
    rcases Nat.lt_or_ge i l.length with h' | h'
    · exact h'
    · rw [List.drop_of_length_le h'] at h; cases h
  rw [rd_nat l i hlt]
  rw [List.drop_eq_getElem_cons hlt] at h
  exact (List.cons.inj h).1

theorem drop_lt {α : Type} {l : List α} {i : Nat} {a : α} {r : List α} (h : l.drop i = a :: r) : i < l.length := by
  rcases Nat.lt_or_ge i l.length with h' | h'
  · exact h'
  · rw [List.drop_of_length_le h'] at h; cases h

theorem drop_next {α : Type} {l : List α} {i : Nat} {a : α} {r : List α} (h : l.drop i = a :: r) : l.drop (i + 1) = r := by
  have hlt := drop_lt h
  rw [List.drop_eq_getElem_cons hlt] at h
  exact (List.cons.inj h).2

theorem drop_nil {α : Type} {l : List α} {i : Nat} (h : l.drop i = []) : l.length ≤ i := by
  rcases Nat.lt_or_ge i l.length with h' | h'
  · rw [List.drop_eq_getElem_cons h'] at h; cases h
  · exact h'

/-- From a number of rounds on. -/
theorem ev_k {α : Type} {g : Nat → Option α} {r : α} (K : Nat) (h : ∀ k, K < k → g k = some r) : Ev g r := ⟨K + 1, fun k hk => h k (by omega)⟩

theorem succ_of_lt {d k : Nat} (h : d < k) : ∃ m, k = m + 1 := ⟨k - 1, by omega⟩

end Go.Proofs.Ytnebapnfkolflaa.Base
