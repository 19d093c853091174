/- Functions of the program as plain Lean functions and that the machine's calls answer as they do, the words of the print that these use, lemmas and plain proofs of laws. Put together by a program of this work that leaves out what nothing uses; Lean checks it. -/
import Derived.Test.YtbcfccdoffbncaaG9c6b992078
section
set_option autoImplicit false
namespace Go.Proofs.Ytbcfccdoffbncaa.Det
open Go.RowKit Go.Proofs.YtbcfccdoffbncaaW.PrintWords Go.Proofs.YtbcfccdoffbncaaW.PrintLast Go.Proofs.YtbcfccdoffbncaaW.PrintMore Go.Proofs.Ytbcfccdoffbncaa.Base Go.Proofs.Ytbcfccdoffbncaa.Loops Go.Proofs.Ytbcfccdoffbncaa.Bits
def colsR (S j d : Nat) : List Int := ((List.range' j d).filter fun i => S.testBit i).map fun i : Nat => (i : Int)
theorem colsR_snoc (S j : Nat) : colsR S 0 (j + 1) = colsR S 0 j ++ (if S.testBit j = true then [(j : Int)] else []) := by
  unfold colsR
  rw [List.range'_concat, List.filter_append, List.map_append]
  congr 1
  simp only [Nat.zero_add, Nat.one_mul]
  by_cases h : S.testBit j = true <;> simp [h]
theorem colsR_len (S j d : Nat) : (colsR S j d).length ≤ d := by
  unfold colsR
  rw [List.length_map]
  exact Nat.le_trans (List.length_filter_le _ _) (by simp)
theorem colsR_mem {S j d : Nat} {x : Int} (h : x ∈ colsR S j d) : (j : Int) ≤ x ∧ x < (j + d : Nat) := by
  unfold colsR at h
  rw [List.mem_map] at h
  obtain ⟨i, hi, rfl⟩ := h
  rw [List.mem_filter, List.mem_range'_1] at hi
  omega
end Go.Proofs.Ytbcfccdoffbncaa.Det
end
