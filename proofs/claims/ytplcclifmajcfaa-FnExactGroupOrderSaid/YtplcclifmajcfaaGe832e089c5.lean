/- Functions of the program as plain Lean functions and that the machine's calls answer as they do, the words of the print that these use, lemmas and plain proofs of laws. Put together by a program of this work that leaves out what nothing uses; Lean checks it. -/
import Derived.Test.YtplcclifmajcfaaG57aacc24f0
section
set_option autoImplicit false
namespace Go.Proofs.Ytplcclifmajcfaa.Det
open Go.RowKit Go.Proofs.YtplcclifmajcfaaW.PrintWords Go.Proofs.YtplcclifmajcfaaW.PrintLast Go.Proofs.YtplcclifmajcfaaW.PrintMore Go.Proofs.Ytplcclifmajcfaa.Base Go.Proofs.Ytplcclifmajcfaa.Loops Go.Proofs.Ytplcclifmajcfaa.Bits
def dLoop (x : Int → Int) (F : List Int → Int) : List Int → List Int → Int → Int → Int
  | _, [], s, _ => s
  | pre, c :: post, s, g => dLoop x F (pre ++ [c]) post (if x c = 0 then s else wrap64 (s + wrap64 (wrap64 (g * x c) * F (pre ++ post)))) (wrap64 (-g))
def dF (row : Int → Int → Int) : List Int → List Int → Int
  | [], _ => 1
  | r :: R, C => dLoop (row r) (dF row R) [] C 0 1
def clr (S j : Nat) : Nat := S &&& (63 - 2 ^ j)
theorem clr_lt (S j : Nat) (h : S < 64) : clr S j < 64 := Nat.lt_of_le_of_lt Nat.and_le_left h
theorem andNot_clr (S j : Nat) (hS : S < 64) (hj : j < 6) : Go.bits .andNot .i64 (S : Int) (shl .i64 1 (j : Int)) = (clr S j : Int) := by
  rw [shl_nat j (by omega)]
  have h : ∀ S : Fin 64, ∀ j : Fin 6, Go.bits .andNot .i64 (S.val : Int) ((2 ^ j.val : Nat) : Int) = (clr S.val j.val : Int) := by decide +kernel
  exact h ⟨S, hS⟩ ⟨j, hj⟩
theorem clr_bit (S j i : Nat) (hS : S < 64) (hj : j < 6) (hi : i < 6) : (clr S j).testBit i = (S.testBit i && decide (i ≠ j)) := by
  have h : ∀ S : Fin 64, ∀ j i : Fin 6, (clr S.val j.val).testBit i.val = (S.val.testBit i.val && decide (i.val ≠ j.val)) := by decide +kernel
  exact h ⟨S, hS⟩ ⟨j, hj⟩ ⟨i, hi⟩
def colsR (S j d : Nat) : List Int := ((List.range' j d).filter fun i => S.testBit i).map fun i : Nat => (i : Int)
theorem colsR_zero (S j : Nat) : colsR S j 0 = [] := rfl
theorem colsR_succ (S j d : Nat) : colsR S j (d + 1) = (if S.testBit j = true then [(j : Int)] else []) ++ colsR S (j + 1) d := by
  unfold colsR
  rw [List.range'_succ, List.filter_cons]
  split <;> simp
theorem colsR_snoc (S j : Nat) : colsR S 0 (j + 1) = colsR S 0 j ++ (if S.testBit j = true then [(j : Int)] else []) := by
  unfold colsR
  rw [List.range'_concat, List.filter_append, List.map_append]
  congr 1
  simp only [Nat.zero_add, Nat.one_mul]
  by_cases h : S.testBit j = true <;> simp [h]
theorem colsR_split (S j d : Nat) : colsR S 0 (j + d) = colsR S 0 j ++ colsR S j d := by
  induction d generalizing j with
  | zero => simp [colsR_zero]
  | succ d ih => rw [show j + (d + 1) = (j + 1) + d by omega, ih (j + 1), colsR_snoc, colsR_succ, List.append_assoc]
theorem colsR_congr {S T j d : Nat} (h : ∀ i, j ≤ i → i < j + d → S.testBit i = T.testBit i) : colsR S j d = colsR T j d := by
  unfold colsR
  congr 1
  refine List.filter_congr fun i hi => ?_
  rw [List.mem_range'_1] at hi
  exact h i hi.1 hi.2
theorem colsR_clr (S j d : Nat) (hS : S < 64) (hn : j + 1 + d ≤ 6) : colsR (clr S j) 0 (j + 1 + d) = colsR S 0 j ++ colsR S (j + 1) d := by
  rw [colsR_split, colsR_snoc, clr_bit S j j hS (by omega) (by omega)]
  simp only [ne_eq, not_true, decide_false, Bool.and_false, Bool.false_eq_true, if_false, List.append_nil]
  rw [colsR_congr (T := S) fun i _ hi => ?_, colsR_congr (S := clr S j) (T := S) fun i h1 h2 => ?_]
  · rw [clr_bit S j i hS (by omega) (by omega), decide_eq_true (by omega), Bool.and_true]
  · rw [clr_bit S j i hS (by omega) (by omega), decide_eq_true (by omega), Bool.and_true]
theorem colsR_len (S j d : Nat) : (colsR S j d).length ≤ d := by
  unfold colsR
  rw [List.length_map]
  exact Nat.le_trans (List.length_filter_le _ _) (by simp)
end Go.Proofs.Ytplcclifmajcfaa.Det
end
