/- Functions of the program as plain Lean functions and that the machine's calls answer as they do, the words of the print that these use, lemmas and plain proofs of laws. Put together by a program of this work that leaves out what nothing uses; Lean checks it. -/
import Derived.Deep.Slices
import Derived.ChangeSame
import Derived.ChangeMaps5
import Derived.Test.YtplcclifmajcfaaGadccbf711f
section
set_option autoImplicit false
set_option linter.unusedSectionVars false
set_option linter.unusedSimpArgs false
namespace Go.Proofs.Ytplcclifmajcfaa.Smith
open Go.RowKit Go.Proofs.YtplcclifmajcfaaW.PrintWords Go.Proofs.YtplcclifmajcfaaW.PrintLast Go.Proofs.YtplcclifmajcfaaW.PrintMore Go.Proofs.Ytplcclifmajcfaa.Base Go.Proofs.Ytplcclifmajcfaa.Loops Go.Proofs.Ytplcclifmajcfaa.Bits Go.Proofs.Ytplcclifmajcfaa.Det Go.Proofs.Ytplcclifmajcfaa.Minor
def d3 (a b c d e f g h i : Int) : Int := a * (e * i - f * h) - b * (d * i - f * g) + c * (d * h - e * g)
def d4 (a b c d e f g h i j k l m n o p : Int) : Int := a * d3 f g h j k l n o p - b * d3 e g h i k l m o p + c * d3 e f h i j l m n p - d * d3 e f g i j k m n o
theorem dZ1 (row : Int → Int → Int) (r c : Int) : dZ row [r] [c] = row r c := by
  simp [dZ, zSum]
theorem dZ2 (row : Int → Int → Int) (r s c d : Int) : dZ row [r, s] [c, d] = row r c * row s d - row r d * row s c := by
  simp only [dZ, zSum, List.nil_append, List.append_nil, List.cons_append]
  grind
theorem dZ3 (row : Int → Int → Int) (r s t c d e : Int) : dZ row [r, s, t] [c, d, e] = d3 (row r c) (row r d) (row r e) (row s c) (row s d) (row s e) (row t c) (row t d) (row t e) := by
  simp only [dZ, zSum, d3, List.nil_append, List.append_nil, List.cons_append]
  grind
theorem dZs4 (row : Int → Int → Int) (r : Int) (R : List Int) (a b c d : Int) : dZ row (r :: R) [a, b, c, d] = row r a * dZ row R [b, c, d] - row r b * dZ row R [a, c, d] + row r c * dZ row R [a, b, d] - row r d * dZ row R [a, b, c] := by
  simp only [dZ, zSum, List.nil_append, List.append_nil, List.cons_append]
  grind
theorem dZs5 (row : Int → Int → Int) (r : Int) (R : List Int) (a b c d e : Int) : dZ row (r :: R) [a, b, c, d, e] = row r a * dZ row R [b, c, d, e] - row r b * dZ row R [a, c, d, e] + row r c * dZ row R [a, b, d, e] - row r d * dZ row R [a, b, c, e] + row r e * dZ row R [a, b, c, d] := by
  simp only [dZ, zSum, List.nil_append, List.append_nil, List.cons_append]
  grind
theorem dZ4 (row : Int → Int → Int) (r s t u c d e f : Int) : dZ row [r, s, t, u] [c, d, e, f] = d4 (row r c) (row r d) (row r e) (row r f) (row s c) (row s d) (row s e) (row s f) (row t c) (row t d) (row t e) (row t f) (row u c) (row u d) (row u e) (row u f) := by
  rw [dZs4, dZ3, dZ3, dZ3, dZ3]
  rfl
theorem jac_01_01 (row : Int → Int → Int) : dZ row [0, 1, 2, 3] [0, 1, 2, 3] * dZ row [0, 1] [0, 1] = dZ row [0, 1, 3] [0, 1, 3] * dZ row [0, 1, 2] [0, 1, 2] - dZ row [0, 1, 3] [0, 1, 2] * dZ row [0, 1, 2] [0, 1, 3] := by
  simp only [dZ4, dZ3, dZ2, d4, d3]; grind
theorem jac_01_02 (row : Int → Int → Int) : dZ row [0, 1, 2, 3] [0, 1, 2, 3] * dZ row [0, 1] [0, 2] = dZ row [0, 1, 3] [0, 2, 3] * dZ row [0, 1, 2] [0, 1, 2] - dZ row [0, 1, 3] [0, 1, 2] * dZ row [0, 1, 2] [0, 2, 3] := by
  simp only [dZ4, dZ3, dZ2, d4, d3]; grind
theorem jac_01_03 (row : Int → Int → Int) : dZ row [0, 1, 2, 3] [0, 1, 2, 3] * dZ row [0, 1] [0, 3] = dZ row [0, 1, 3] [0, 2, 3] * dZ row [0, 1, 2] [0, 1, 3] - dZ row [0, 1, 3] [0, 1, 3] * dZ row [0, 1, 2] [0, 2, 3] := by
  simp only [dZ4, dZ3, dZ2, d4, d3]; grind
theorem jac_01_12 (row : Int → Int → Int) : dZ row [0, 1, 2, 3] [0, 1, 2, 3] * dZ row [0, 1] [1, 2] = dZ row [0, 1, 3] [1, 2, 3] * dZ row [0, 1, 2] [0, 1, 2] - dZ row [0, 1, 3] [0, 1, 2] * dZ row [0, 1, 2] [1, 2, 3] := by
  simp only [dZ4, dZ3, dZ2, d4, d3]; grind
theorem jac_01_13 (row : Int → Int → Int) : dZ row [0, 1, 2, 3] [0, 1, 2, 3] * dZ row [0, 1] [1, 3] = dZ row [0, 1, 3] [1, 2, 3] * dZ row [0, 1, 2] [0, 1, 3] - dZ row [0, 1, 3] [0, 1, 3] * dZ row [0, 1, 2] [1, 2, 3] := by
  simp only [dZ4, dZ3, dZ2, d4, d3]; grind
theorem jac_01_23 (row : Int → Int → Int) : dZ row [0, 1, 2, 3] [0, 1, 2, 3] * dZ row [0, 1] [2, 3] = dZ row [0, 1, 3] [1, 2, 3] * dZ row [0, 1, 2] [0, 2, 3] - dZ row [0, 1, 3] [0, 2, 3] * dZ row [0, 1, 2] [1, 2, 3] := by
  simp only [dZ4, dZ3, dZ2, d4, d3]; grind
theorem jac_02_01 (row : Int → Int → Int) : dZ row [0, 1, 2, 3] [0, 1, 2, 3] * dZ row [0, 2] [0, 1] = dZ row [0, 2, 3] [0, 1, 3] * dZ row [0, 1, 2] [0, 1, 2] - dZ row [0, 2, 3] [0, 1, 2] * dZ row [0, 1, 2] [0, 1, 3] := by
  simp only [dZ4, dZ3, dZ2, d4, d3]; grind
theorem jac_02_02 (row : Int → Int → Int) : dZ row [0, 1, 2, 3] [0, 1, 2, 3] * dZ row [0, 2] [0, 2] = dZ row [0, 2, 3] [0, 2, 3] * dZ row [0, 1, 2] [0, 1, 2] - dZ row [0, 2, 3] [0, 1, 2] * dZ row [0, 1, 2] [0, 2, 3] := by
  simp only [dZ4, dZ3, dZ2, d4, d3]; grind
theorem jac_02_03 (row : Int → Int → Int) : dZ row [0, 1, 2, 3] [0, 1, 2, 3] * dZ row [0, 2] [0, 3] = dZ row [0, 2, 3] [0, 2, 3] * dZ row [0, 1, 2] [0, 1, 3] - dZ row [0, 2, 3] [0, 1, 3] * dZ row [0, 1, 2] [0, 2, 3] := by
  simp only [dZ4, dZ3, dZ2, d4, d3]; grind
theorem jac_02_12 (row : Int → Int → Int) : dZ row [0, 1, 2, 3] [0, 1, 2, 3] * dZ row [0, 2] [1, 2] = dZ row [0, 2, 3] [1, 2, 3] * dZ row [0, 1, 2] [0, 1, 2] - dZ row [0, 2, 3] [0, 1, 2] * dZ row [0, 1, 2] [1, 2, 3] := by
  simp only [dZ4, dZ3, dZ2, d4, d3]; grind
theorem jac_02_13 (row : Int → Int → Int) : dZ row [0, 1, 2, 3] [0, 1, 2, 3] * dZ row [0, 2] [1, 3] = dZ row [0, 2, 3] [1, 2, 3] * dZ row [0, 1, 2] [0, 1, 3] - dZ row [0, 2, 3] [0, 1, 3] * dZ row [0, 1, 2] [1, 2, 3] := by
  simp only [dZ4, dZ3, dZ2, d4, d3]; grind
theorem jac_02_23 (row : Int → Int → Int) : dZ row [0, 1, 2, 3] [0, 1, 2, 3] * dZ row [0, 2] [2, 3] = dZ row [0, 2, 3] [1, 2, 3] * dZ row [0, 1, 2] [0, 2, 3] - dZ row [0, 2, 3] [0, 2, 3] * dZ row [0, 1, 2] [1, 2, 3] := by
  simp only [dZ4, dZ3, dZ2, d4, d3]; grind
theorem jac_03_01 (row : Int → Int → Int) : dZ row [0, 1, 2, 3] [0, 1, 2, 3] * dZ row [0, 3] [0, 1] = dZ row [0, 2, 3] [0, 1, 3] * dZ row [0, 1, 3] [0, 1, 2] - dZ row [0, 2, 3] [0, 1, 2] * dZ row [0, 1, 3] [0, 1, 3] := by
  simp only [dZ4, dZ3, dZ2, d4, d3]; grind
theorem jac_03_02 (row : Int → Int → Int) : dZ row [0, 1, 2, 3] [0, 1, 2, 3] * dZ row [0, 3] [0, 2] = dZ row [0, 2, 3] [0, 2, 3] * dZ row [0, 1, 3] [0, 1, 2] - dZ row [0, 2, 3] [0, 1, 2] * dZ row [0, 1, 3] [0, 2, 3] := by
  simp only [dZ4, dZ3, dZ2, d4, d3]; grind
theorem jac_03_03 (row : Int → Int → Int) : dZ row [0, 1, 2, 3] [0, 1, 2, 3] * dZ row [0, 3] [0, 3] = dZ row [0, 2, 3] [0, 2, 3] * dZ row [0, 1, 3] [0, 1, 3] - dZ row [0, 2, 3] [0, 1, 3] * dZ row [0, 1, 3] [0, 2, 3] := by
  simp only [dZ4, dZ3, dZ2, d4, d3]; grind
theorem jac_03_12 (row : Int → Int → Int) : dZ row [0, 1, 2, 3] [0, 1, 2, 3] * dZ row [0, 3] [1, 2] = dZ row [0, 2, 3] [1, 2, 3] * dZ row [0, 1, 3] [0, 1, 2] - dZ row [0, 2, 3] [0, 1, 2] * dZ row [0, 1, 3] [1, 2, 3] := by
  simp only [dZ4, dZ3, dZ2, d4, d3]; grind
theorem jac_03_13 (row : Int → Int → Int) : dZ row [0, 1, 2, 3] [0, 1, 2, 3] * dZ row [0, 3] [1, 3] = dZ row [0, 2, 3] [1, 2, 3] * dZ row [0, 1, 3] [0, 1, 3] - dZ row [0, 2, 3] [0, 1, 3] * dZ row [0, 1, 3] [1, 2, 3] := by
  simp only [dZ4, dZ3, dZ2, d4, d3]; grind
theorem jac_03_23 (row : Int → Int → Int) : dZ row [0, 1, 2, 3] [0, 1, 2, 3] * dZ row [0, 3] [2, 3] = dZ row [0, 2, 3] [1, 2, 3] * dZ row [0, 1, 3] [0, 2, 3] - dZ row [0, 2, 3] [0, 2, 3] * dZ row [0, 1, 3] [1, 2, 3] := by
  simp only [dZ4, dZ3, dZ2, d4, d3]; grind
theorem jac_12_01 (row : Int → Int → Int) : dZ row [0, 1, 2, 3] [0, 1, 2, 3] * dZ row [1, 2] [0, 1] = dZ row [1, 2, 3] [0, 1, 3] * dZ row [0, 1, 2] [0, 1, 2] - dZ row [1, 2, 3] [0, 1, 2] * dZ row [0, 1, 2] [0, 1, 3] := by
  simp only [dZ4, dZ3, dZ2, d4, d3]; grind
theorem jac_12_02 (row : Int → Int → Int) : dZ row [0, 1, 2, 3] [0, 1, 2, 3] * dZ row [1, 2] [0, 2] = dZ row [1, 2, 3] [0, 2, 3] * dZ row [0, 1, 2] [0, 1, 2] - dZ row [1, 2, 3] [0, 1, 2] * dZ row [0, 1, 2] [0, 2, 3] := by
  simp only [dZ4, dZ3, dZ2, d4, d3]; grind
theorem jac_12_03 (row : Int → Int → Int) : dZ row [0, 1, 2, 3] [0, 1, 2, 3] * dZ row [1, 2] [0, 3] = dZ row [1, 2, 3] [0, 2, 3] * dZ row [0, 1, 2] [0, 1, 3] - dZ row [1, 2, 3] [0, 1, 3] * dZ row [0, 1, 2] [0, 2, 3] := by
  simp only [dZ4, dZ3, dZ2, d4, d3]; grind
theorem jac_12_12 (row : Int → Int → Int) : dZ row [0, 1, 2, 3] [0, 1, 2, 3] * dZ row [1, 2] [1, 2] = dZ row [1, 2, 3] [1, 2, 3] * dZ row [0, 1, 2] [0, 1, 2] - dZ row [1, 2, 3] [0, 1, 2] * dZ row [0, 1, 2] [1, 2, 3] := by
  simp only [dZ4, dZ3, dZ2, d4, d3]; grind
theorem jac_12_13 (row : Int → Int → Int) : dZ row [0, 1, 2, 3] [0, 1, 2, 3] * dZ row [1, 2] [1, 3] = dZ row [1, 2, 3] [1, 2, 3] * dZ row [0, 1, 2] [0, 1, 3] - dZ row [1, 2, 3] [0, 1, 3] * dZ row [0, 1, 2] [1, 2, 3] := by
  simp only [dZ4, dZ3, dZ2, d4, d3]; grind
theorem jac_12_23 (row : Int → Int → Int) : dZ row [0, 1, 2, 3] [0, 1, 2, 3] * dZ row [1, 2] [2, 3] = dZ row [1, 2, 3] [1, 2, 3] * dZ row [0, 1, 2] [0, 2, 3] - dZ row [1, 2, 3] [0, 2, 3] * dZ row [0, 1, 2] [1, 2, 3] := by
  simp only [dZ4, dZ3, dZ2, d4, d3]; grind
theorem jac_13_01 (row : Int → Int → Int) : dZ row [0, 1, 2, 3] [0, 1, 2, 3] * dZ row [1, 3] [0, 1] = dZ row [1, 2, 3] [0, 1, 3] * dZ row [0, 1, 3] [0, 1, 2] - dZ row [1, 2, 3] [0, 1, 2] * dZ row [0, 1, 3] [0, 1, 3] := by
  simp only [dZ4, dZ3, dZ2, d4, d3]; grind
theorem jac_13_02 (row : Int → Int → Int) : dZ row [0, 1, 2, 3] [0, 1, 2, 3] * dZ row [1, 3] [0, 2] = dZ row [1, 2, 3] [0, 2, 3] * dZ row [0, 1, 3] [0, 1, 2] - dZ row [1, 2, 3] [0, 1, 2] * dZ row [0, 1, 3] [0, 2, 3] := by
  simp only [dZ4, dZ3, dZ2, d4, d3]; grind
theorem jac_13_03 (row : Int → Int → Int) : dZ row [0, 1, 2, 3] [0, 1, 2, 3] * dZ row [1, 3] [0, 3] = dZ row [1, 2, 3] [0, 2, 3] * dZ row [0, 1, 3] [0, 1, 3] - dZ row [1, 2, 3] [0, 1, 3] * dZ row [0, 1, 3] [0, 2, 3] := by
  simp only [dZ4, dZ3, dZ2, d4, d3]; grind
theorem jac_13_12 (row : Int → Int → Int) : dZ row [0, 1, 2, 3] [0, 1, 2, 3] * dZ row [1, 3] [1, 2] = dZ row [1, 2, 3] [1, 2, 3] * dZ row [0, 1, 3] [0, 1, 2] - dZ row [1, 2, 3] [0, 1, 2] * dZ row [0, 1, 3] [1, 2, 3] := by
  simp only [dZ4, dZ3, dZ2, d4, d3]; grind
theorem jac_13_13 (row : Int → Int → Int) : dZ row [0, 1, 2, 3] [0, 1, 2, 3] * dZ row [1, 3] [1, 3] = dZ row [1, 2, 3] [1, 2, 3] * dZ row [0, 1, 3] [0, 1, 3] - dZ row [1, 2, 3] [0, 1, 3] * dZ row [0, 1, 3] [1, 2, 3] := by
  simp only [dZ4, dZ3, dZ2, d4, d3]; grind
theorem jac_13_23 (row : Int → Int → Int) : dZ row [0, 1, 2, 3] [0, 1, 2, 3] * dZ row [1, 3] [2, 3] = dZ row [1, 2, 3] [1, 2, 3] * dZ row [0, 1, 3] [0, 2, 3] - dZ row [1, 2, 3] [0, 2, 3] * dZ row [0, 1, 3] [1, 2, 3] := by
  simp only [dZ4, dZ3, dZ2, d4, d3]; grind
theorem jac_23_01 (row : Int → Int → Int) : dZ row [0, 1, 2, 3] [0, 1, 2, 3] * dZ row [2, 3] [0, 1] = dZ row [1, 2, 3] [0, 1, 3] * dZ row [0, 2, 3] [0, 1, 2] - dZ row [1, 2, 3] [0, 1, 2] * dZ row [0, 2, 3] [0, 1, 3] := by
  simp only [dZ4, dZ3, dZ2, d4, d3]; grind
theorem jac_23_02 (row : Int → Int → Int) : dZ row [0, 1, 2, 3] [0, 1, 2, 3] * dZ row [2, 3] [0, 2] = dZ row [1, 2, 3] [0, 2, 3] * dZ row [0, 2, 3] [0, 1, 2] - dZ row [1, 2, 3] [0, 1, 2] * dZ row [0, 2, 3] [0, 2, 3] := by
  simp only [dZ4, dZ3, dZ2, d4, d3]; grind
theorem jac_23_03 (row : Int → Int → Int) : dZ row [0, 1, 2, 3] [0, 1, 2, 3] * dZ row [2, 3] [0, 3] = dZ row [1, 2, 3] [0, 2, 3] * dZ row [0, 2, 3] [0, 1, 3] - dZ row [1, 2, 3] [0, 1, 3] * dZ row [0, 2, 3] [0, 2, 3] := by
  simp only [dZ4, dZ3, dZ2, d4, d3]; grind
theorem jac_23_12 (row : Int → Int → Int) : dZ row [0, 1, 2, 3] [0, 1, 2, 3] * dZ row [2, 3] [1, 2] = dZ row [1, 2, 3] [1, 2, 3] * dZ row [0, 2, 3] [0, 1, 2] - dZ row [1, 2, 3] [0, 1, 2] * dZ row [0, 2, 3] [1, 2, 3] := by
  simp only [dZ4, dZ3, dZ2, d4, d3]; grind
theorem jac_23_13 (row : Int → Int → Int) : dZ row [0, 1, 2, 3] [0, 1, 2, 3] * dZ row [2, 3] [1, 3] = dZ row [1, 2, 3] [1, 2, 3] * dZ row [0, 2, 3] [0, 1, 3] - dZ row [1, 2, 3] [0, 1, 3] * dZ row [0, 2, 3] [1, 2, 3] := by
  simp only [dZ4, dZ3, dZ2, d4, d3]; grind
theorem jac_23_23 (row : Int → Int → Int) : dZ row [0, 1, 2, 3] [0, 1, 2, 3] * dZ row [2, 3] [2, 3] = dZ row [1, 2, 3] [1, 2, 3] * dZ row [0, 2, 3] [0, 2, 3] - dZ row [1, 2, 3] [0, 2, 3] * dZ row [0, 2, 3] [1, 2, 3] := by
  simp only [dZ4, dZ3, dZ2, d4, d3]; grind
theorem jac (row : Int → Int → Int) : ∀ R ∈ setsL 4 2, ∀ C ∈ setsL 4 2, ∃ P Q S T, P ∈ setsL 4 3 ∧ Q ∈ setsL 4 3 ∧ S ∈ setsL 4 3 ∧ T ∈ setsL 4 3 ∧ dZ row [0, 1, 2, 3] [0, 1, 2, 3] * dZ row R C = dZ row P S * dZ row Q T - dZ row P T * dZ row Q S := by
  have e : setsL 4 2 = [[0, 1], [0, 2], [0, 3], [1, 2], [1, 3], [2, 3]] := by decide +kernel
  rw [e]
  intro R hR C hC
  simp only [List.mem_cons, List.not_mem_nil, or_false] at hR hC
  rcases hR with rfl | rfl | rfl | rfl | rfl | rfl <;> rcases hC with rfl | rfl | rfl | rfl | rfl | rfl
  · exact ⟨[0, 1, 3], [0, 1, 2], [0, 1, 3], [0, 1, 2], by decide +kernel, by decide +kernel, by decide +kernel, by decide +kernel, jac_01_01 row⟩
  · exact ⟨[0, 1, 3], [0, 1, 2], [0, 2, 3], [0, 1, 2], by decide +kernel, by decide +kernel, by decide +kernel, by decide +kernel, jac_01_02 row⟩
  · exact ⟨[0, 1, 3], [0, 1, 2], [0, 2, 3], [0, 1, 3], by decide +kernel, by decide +kernel, by decide +kernel, by decide +kernel, jac_01_03 row⟩
  · exact ⟨[0, 1, 3], [0, 1, 2], [1, 2, 3], [0, 1, 2], by decide +kernel, by decide +kernel, by decide +kernel, by decide +kernel, jac_01_12 row⟩
  · exact ⟨[0, 1, 3], [0, 1, 2], [1, 2, 3], [0, 1, 3], by decide +kernel, by decide +kernel, by decide +kernel, by decide +kernel, jac_01_13 row⟩
  · exact ⟨[0, 1, 3], [0, 1, 2], [1, 2, 3], [0, 2, 3], by decide +kernel, by decide +kernel, by decide +kernel, by decide +kernel, jac_01_23 row⟩
  · exact ⟨[0, 2, 3], [0, 1, 2], [0, 1, 3], [0, 1, 2], by decide +kernel, by decide +kernel, by decide +kernel, by decide +kernel, jac_02_01 row⟩
  · exact ⟨[0, 2, 3], [0, 1, 2], [0, 2, 3], [0, 1, 2], by decide +kernel, by decide +kernel, by decide +kernel, by decide +kernel, jac_02_02 row⟩
  · exact ⟨[0, 2, 3], [0, 1, 2], [0, 2, 3], [0, 1, 3], by decide +kernel, by decide +kernel, by decide +kernel, by decide +kernel, jac_02_03 row⟩
  · exact ⟨[0, 2, 3], [0, 1, 2], [1, 2, 3], [0, 1, 2], by decide +kernel, by decide +kernel, by decide +kernel, by decide +kernel, jac_02_12 row⟩
  · exact ⟨[0, 2, 3], [0, 1, 2], [1, 2, 3], [0, 1, 3], by decide +kernel, by decide +kernel, by decide +kernel, by decide +kernel, jac_02_13 row⟩
  · exact ⟨[0, 2, 3], [0, 1, 2], [1, 2, 3], [0, 2, 3], by decide +kernel, by decide +kernel, by decide +kernel, by decide +kernel, jac_02_23 row⟩
  · exact ⟨[0, 2, 3], [0, 1, 3], [0, 1, 3], [0, 1, 2], by decide +kernel, by decide +kernel, by decide +kernel, by decide +kernel, jac_03_01 row⟩
  · exact ⟨[0, 2, 3], [0, 1, 3], [0, 2, 3], [0, 1, 2], by decide +kernel, by decide +kernel, by decide +kernel, by decide +kernel, jac_03_02 row⟩
  · exact ⟨[0, 2, 3], [0, 1, 3], [0, 2, 3], [0, 1, 3], by decide +kernel, by decide +kernel, by decide +kernel, by decide +kernel, jac_03_03 row⟩
  · exact ⟨[0, 2, 3], [0, 1, 3], [1, 2, 3], [0, 1, 2], by decide +kernel, by decide +kernel, by decide +kernel, by decide +kernel, jac_03_12 row⟩
  · exact ⟨[0, 2, 3], [0, 1, 3], [1, 2, 3], [0, 1, 3], by decide +kernel, by decide +kernel, by decide +kernel, by decide +kernel, jac_03_13 row⟩
  · exact ⟨[0, 2, 3], [0, 1, 3], [1, 2, 3], [0, 2, 3], by decide +kernel, by decide +kernel, by decide +kernel, by decide +kernel, jac_03_23 row⟩
  · exact ⟨[1, 2, 3], [0, 1, 2], [0, 1, 3], [0, 1, 2], by decide +kernel, by decide +kernel, by decide +kernel, by decide +kernel, jac_12_01 row⟩
  · exact ⟨[1, 2, 3], [0, 1, 2], [0, 2, 3], [0, 1, 2], by decide +kernel, by decide +kernel, by decide +kernel, by decide +kernel, jac_12_02 row⟩
  · exact ⟨[1, 2, 3], [0, 1, 2], [0, 2, 3], [0, 1, 3], by decide +kernel, by decide +kernel, by decide +kernel, by decide +kernel, jac_12_03 row⟩
  · exact ⟨[1, 2, 3], [0, 1, 2], [1, 2, 3], [0, 1, 2], by decide +kernel, by decide +kernel, by decide +kernel, by decide +kernel, jac_12_12 row⟩
  · exact ⟨[1, 2, 3], [0, 1, 2], [1, 2, 3], [0, 1, 3], by decide +kernel, by decide +kernel, by decide +kernel, by decide +kernel, jac_12_13 row⟩
  · exact ⟨[1, 2, 3], [0, 1, 2], [1, 2, 3], [0, 2, 3], by decide +kernel, by decide +kernel, by decide +kernel, by decide +kernel, jac_12_23 row⟩
  · exact ⟨[1, 2, 3], [0, 1, 3], [0, 1, 3], [0, 1, 2], by decide +kernel, by decide +kernel, by decide +kernel, by decide +kernel, jac_13_01 row⟩
  · exact ⟨[1, 2, 3], [0, 1, 3], [0, 2, 3], [0, 1, 2], by decide +kernel, by decide +kernel, by decide +kernel, by decide +kernel, jac_13_02 row⟩
  · exact ⟨[1, 2, 3], [0, 1, 3], [0, 2, 3], [0, 1, 3], by decide +kernel, by decide +kernel, by decide +kernel, by decide +kernel, jac_13_03 row⟩
  · exact ⟨[1, 2, 3], [0, 1, 3], [1, 2, 3], [0, 1, 2], by decide +kernel, by decide +kernel, by decide +kernel, by decide +kernel, jac_13_12 row⟩
  · exact ⟨[1, 2, 3], [0, 1, 3], [1, 2, 3], [0, 1, 3], by decide +kernel, by decide +kernel, by decide +kernel, by decide +kernel, jac_13_13 row⟩
  · exact ⟨[1, 2, 3], [0, 1, 3], [1, 2, 3], [0, 2, 3], by decide +kernel, by decide +kernel, by decide +kernel, by decide +kernel, jac_13_23 row⟩
  · exact ⟨[1, 2, 3], [0, 2, 3], [0, 1, 3], [0, 1, 2], by decide +kernel, by decide +kernel, by decide +kernel, by decide +kernel, jac_23_01 row⟩
  · exact ⟨[1, 2, 3], [0, 2, 3], [0, 2, 3], [0, 1, 2], by decide +kernel, by decide +kernel, by decide +kernel, by decide +kernel, jac_23_02 row⟩
  · exact ⟨[1, 2, 3], [0, 2, 3], [0, 2, 3], [0, 1, 3], by decide +kernel, by decide +kernel, by decide +kernel, by decide +kernel, jac_23_03 row⟩
  · exact ⟨[1, 2, 3], [0, 2, 3], [1, 2, 3], [0, 1, 2], by decide +kernel, by decide +kernel, by decide +kernel, by decide +kernel, jac_23_12 row⟩
  · exact ⟨[1, 2, 3], [0, 2, 3], [1, 2, 3], [0, 1, 3], by decide +kernel, by decide +kernel, by decide +kernel, by decide +kernel, jac_23_13 row⟩
  · exact ⟨[1, 2, 3], [0, 2, 3], [1, 2, 3], [0, 2, 3], by decide +kernel, by decide +kernel, by decide +kernel, by decide +kernel, jac_23_23 row⟩
theorem gl_cube (K M : Nat) : ∀ l : List Int, (∀ x ∈ l, K ∣ x.natAbs ^ 3 * M) → K ∣ gl l ^ 3 * M := by
  intro l
  induction l with
  | nil => intro _; simp [gl]
  | cons x l ih =>
    intro h
    have h1 := ih (fun y hy => h y (by simp [hy]))
    have h2 := h x (by simp)
    simp only [gl]
    rw [← Nat.pow_gcd_pow, ← Nat.gcd_mul_right]
    exact Nat.dvd_gcd h2 h1
theorem gl_lin (K M : Nat) : ∀ l : List Int, (∀ x ∈ l, K ∣ x.natAbs * M) → K ∣ gl l * M := by
  intro l
  induction l with
  | nil => intro _; simp [gl]
  | cons x l ih =>
    intro h
    have h1 := ih (fun y hy => h y (by simp [hy]))
    have h2 := h x (by simp)
    simp only [gl]
    rw [← Nat.gcd_mul_right]
    exact Nat.dvd_gcd h2 h1
theorem sets1 (n : Nat) (hn : n ≤ 6) (i : Int) (h0 : 0 ≤ i) (h1 : i < n) : [i] ∈ setsL n 1 := by
  have h : ∀ n : Fin 7, ∀ i, i < n.val → [((i : Nat) : Int)] ∈ setsL n.val 1 := by decide +kernel
  obtain ⟨k, rfl⟩ := Int.eq_ofNat_of_zero_le h0
  exact h ⟨n, by omega⟩ k (by simpa using h1)
theorem sets2 (n : Nat) (hn : n ≤ 6) (i j : Int) (h0 : 0 ≤ i) (h1 : i < j) (h2 : j < n) : [i, j] ∈ setsL n 2 := by
  have h : ∀ n : Fin 7, ∀ j, j < n.val → ∀ i, i < j → [((i : Nat) : Int), ((j : Nat) : Int)] ∈ setsL n.val 2 := by decide +kernel
  obtain ⟨k, rfl⟩ := Int.eq_ofNat_of_zero_le h0
  obtain ⟨l, rfl⟩ := Int.eq_ofNat_of_zero_le (show 0 ≤ j by omega)
  exact h ⟨n, by omega⟩ l (by simpa using h2) k (by simpa using h1)
theorem len1 {l : List Int} (h : l.length = 1) : ∃ a, l = [a] := by
  match l, h with
  | [a], _ => exact ⟨a, rfl⟩
theorem len2 {l : List Int} (h : l.length = 2) : ∃ a b, l = [a, b] := by
  match l, h with
  | [a, b], _ => exact ⟨a, b, rfl⟩
theorem len3 {l : List Int} (h : l.length = 3) : ∃ a b c, l = [a, b, c] := by
  match l, h with
  | [a, b, c], _ => exact ⟨a, b, c, rfl⟩
theorem zSum_dvd (x : Int → Int) (F : List Int → Int) (d : Int) (P : List Int → Prop) (hF : ∀ L, P L → d ∣ F L) : ∀ (post pre : List Int) (g : Int), (∀ p c q, pre ++ post = p ++ c :: q → P (p ++ q)) → d ∣ zSum x F pre post g := by
  intro post
  induction post with
  | nil => intro pre g _; simp [zSum]
  | cons c post ih =>
    intro pre g hp
    have h1 := ih (pre ++ [c]) (-g) (by simpa using hp)
    have h2 := hF _ (hp pre c post rfl)
    simp only [zSum]
    exact Int.dvd_add (Int.dvd_trans h2 (Int.dvd_mul_left _ _)) h1
theorem pivot3 (b d x11 x12 x13 x21 x22 x23 x31 x32 x33 e11 e12 e13 e21 e22 e23 e31 e32 e33 u1 u2 u3 v1 v2 v3 : Int)
    (h11 : b * x11 = d * e11 + u1 * v1) (h12 : b * x12 = d * e12 + u1 * v2) (h13 : b * x13 = d * e13 + u1 * v3)
    (h21 : b * x21 = d * e21 + u2 * v1) (h22 : b * x22 = d * e22 + u2 * v2) (h23 : b * x23 = d * e23 + u2 * v3)
    (h31 : b * x31 = d * e31 + u3 * v1) (h32 : b * x32 = d * e32 + u3 * v2) (h33 : b * x33 = d * e33 + u3 * v3) :
    d * d ∣ b * b * b * d3 x11 x12 x13 x21 x22 x23 x31 x32 x33 := by
  have e1 : b * b * b * d3 x11 x12 x13 x21 x22 x23 x31 x32 x33 = d3 (b * x11) (b * x12) (b * x13) (b * x21) (b * x22) (b * x23) (b * x31) (b * x32) (b * x33) := by
    clear h11 h12 h13 h21 h22 h23 h31 h32 h33
    unfold d3; grind
  rw [e1, h11, h12, h13, h21, h22, h23, h31, h32, h33]
  clear e1 h11 h12 h13 h21 h22 h23 h31 h32 h33
  refine ⟨d * d3 e11 e12 e13 e21 e22 e23 e31 e32 e33 + (u1 * v1 * (e22 * e33 - e23 * e32) - u1 * v2 * (e21 * e33 - e23 * e31) + u1 * v3 * (e21 * e32 - e22 * e31) - u2 * v1 * (e12 * e33 - e13 * e32) + u2 * v2 * (e11 * e33 - e13 * e31) - u2 * v3 * (e11 * e32 - e12 * e31) + u3 * v1 * (e12 * e23 - e13 * e22) - u3 * v2 * (e11 * e23 - e13 * e21) + u3 * v3 * (e11 * e22 - e12 * e21)), ?_⟩
  unfold d3; grind
section
variable {row : Int → Int → Int} {n : Nat} (hn : n ≤ 6) (H : ∀ k, k ≤ 6 → ∀ R ∈ setsL n k, ∀ C ∈ setsL n k, dF row R C = dZ row R C)
include hn H
theorem dvd_gkZ (k d : Nat) (hk : k ≤ 6) : d ∣ gk row n k ↔ ∀ R ∈ setsL n k, ∀ C ∈ setsL n k, (d : Int) ∣ dZ row R C := by
  rw [dvd_gk]
  constructor
  · intro h R hR C hC
    rw [← H k hk R hR C hC]
    exact Int.ofNat_dvd_left.2 (h R hR C hC)
  · intro h R hR C hC
    rw [H k hk R hR C hC]
    exact Int.ofNat_dvd_left.1 (h R hR C hC)
theorem gk_dvd (k : Nat) (hk : k < 6) : gk row n k ∣ gk row n (k + 1) := by
  rw [dvd_gkZ hn H (k + 1) _ (by omega)]
  intro R hR C hC
  obtain ⟨_, f1, _⟩ := sets_facts n (k + 1) hn (by omega)
  have lR := (f1 R hR).1
  have lC := (f1 C hC).1
  have hR1 := (sets_less n k hn hk R hR).1
  have hC1 := (sets_less n k hn hk C hC).2
  cases R with
  | nil => simp at lR
  | cons r R =>
    simp only [dZ]
    refine zSum_dvd (row r) (dZ row R) _ (fun L => L ∈ setsL n k) (fun L hL => (dvd_gkZ hn H k _ (by omega)).1 (Nat.dvd_refl _) R (by simpa using hR1) L hL) C [] 1 fun p c q e => ?_
    have e' : C = p ++ c :: q := by simpa using e
    have := hC1 p.length (by rw [e', List.length_append, List.length_cons] at lC; omega)
    rw [e'] at this
    rw [List.take_left' rfl, ← List.drop_drop, List.drop_left' rfl] at this
    simpa using this
theorem entry_dvd (r c : Int) (hr : 0 ≤ r ∧ r < (n : Int)) (hc : 0 ≤ c ∧ c < (n : Int)) : ((gk row n 1 : Nat) : Int) ∣ row r c := by
  have := (dvd_gkZ hn H 1 _ (by omega)).1 (Nat.dvd_refl _) [r] (sets1 n hn r hr.1 hr.2) [c] (sets1 n hn c hc.1 hc.2)
  rwa [dZ1] at this
theorem chain1 : gk row n 1 * gk row n 1 ∣ gk row n 2 := by
  rw [dvd_gkZ hn H 2 _ (by omega)]
  intro R hR C hC
  obtain ⟨_, f1, _⟩ := sets_facts n 2 hn (by omega)
  obtain ⟨l1, m1, _⟩ := f1 R hR
  obtain ⟨l2, m2, _⟩ := f1 C hC
  obtain ⟨r, s, rfl⟩ := len2 l1
  obtain ⟨c, d, rfl⟩ := len2 l2
  have q := fun x y hx hy => entry_dvd hn H x y (m1 x hx) (m2 y hy)
  rw [dZ2, Int.natCast_mul]
  exact Int.dvd_sub (Int.mul_dvd_mul (q r c (by simp) (by simp)) (q s d (by simp) (by simp))) (Int.mul_dvd_mul (q r d (by simp) (by simp)) (q s c (by simp) (by simp)))
theorem minor2_dvd (r c i j : Int) (hr : 0 ≤ r ∧ r < (n : Int)) (hc : 0 ≤ c ∧ c < (n : Int)) (hi : 0 ≤ i ∧ i < (n : Int)) (hj : 0 ≤ j ∧ j < (n : Int)) :
    ((gk row n 2 : Nat) : Int) ∣ row r c * row i j - row i c * row r j := by
  have q := (dvd_gkZ hn H 2 _ (by omega)).1 (Nat.dvd_refl _)
  have p : ∀ a b x y : Int, 0 ≤ a → a < b → b < (n : Int) → 0 ≤ x → x < y → y < (n : Int) → ((gk row n 2 : Nat) : Int) ∣ row a x * row b y - row a y * row b x := by
    intro a b x y h1 h2 h3 h4 h5 h6
    have := q [a, b] (sets2 n hn a b h1 h2 h3) [x, y] (sets2 n hn x y h4 h5 h6)
    rwa [dZ2] at this
  rcases Int.lt_trichotomy i r with h1 | h1 | h1
  · rcases Int.lt_trichotomy j c with h2 | h2 | h2
    · have := p i r j c hi.1 h1 hr.2 hj.1 h2 hc.2
      rwa [show row i j * row r c - row i c * row r j = row r c * row i j - row i c * row r j by grind] at this
    · subst h2
      rw [show row r j * row i j - row i j * row r j = 0 by grind]
      exact Int.dvd_zero _
    · have := p i r c j hi.1 h1 hr.2 hc.1 h2 hj.2
      rw [← Int.dvd_neg] at this
      rwa [show -(row i c * row r j - row i j * row r c) = row r c * row i j - row i c * row r j by grind] at this
  · subst h1
    rw [show row i c * row i j - row i c * row i j = 0 by grind]
    exact Int.dvd_zero _
  · rcases Int.lt_trichotomy j c with h2 | h2 | h2
    · have := p r i j c hr.1 h1 hi.2 hj.1 h2 hc.2
      rw [← Int.dvd_neg] at this
      rwa [show -(row r j * row i c - row r c * row i j) = row r c * row i j - row i c * row r j by grind] at this
    · subst h2
      rw [show row r j * row i j - row i j * row r j = 0 by grind]
      exact Int.dvd_zero _
    · have := p r i c j hr.1 h1 hi.2 hc.1 h2 hj.2
      rwa [show row r c * row i j - row r j * row i c = row r c * row i j - row i c * row r j by grind] at this
theorem chain2 (hg : gk row n 1 ≠ 0) : gk row n 2 * gk row n 2 ∣ gk row n 1 * gk row n 3 := by
  obtain ⟨d, hd⟩ := chain1 hn H
  have hm2 := minor2_dvd hn H
  have hent := entry_dvd hn H
  have hlin : ∀ R ∈ setsL n 3, ∀ C ∈ setsL n 3, gk row n 2 * gk row n 2 ∣ (dF row R C).natAbs * gk row n 1 := by
    intro R hR C hC
    rw [H 3 (by omega) R hR C hC]
    obtain ⟨_, f1, _⟩ := sets_facts n 3 hn (by omega)
    obtain ⟨l1, m1, _⟩ := f1 R hR
    obtain ⟨l2, m2, _⟩ := f1 C hC
    obtain ⟨r1, r2, r3, rfl⟩ := len3 l1
    obtain ⟨c1, c2, c3, rfl⟩ := len3 l2
    have R1 := m1 r1 (by simp)
    have R2 := m1 r2 (by simp)
    have R3 := m1 r3 (by simp)
    have C1 := m2 c1 (by simp)
    have C2 := m2 c2 (by simp)
    have C3 := m2 c3 (by simp)
    have hgl : gk row n 1 = gl (minors row n 1) := rfl
    generalize gk row n 1 = g at *
    generalize gk row n 2 = D at *
    have hgZ : (g : Int) ≠ 0 := by omega
    have hB : ∀ r c : Int, 0 ≤ r ∧ r < (n : Int) → 0 ≤ c ∧ c < (n : Int) → row r c = g * (row r c / g) := fun r c hr hc => (Int.mul_ediv_cancel' (hent r c hr hc)).symm
    have hC' : ∀ r c i j : Int, 0 ≤ r ∧ r < (n : Int) → 0 ≤ c ∧ c < (n : Int) → 0 ≤ i ∧ i < (n : Int) → 0 ≤ j ∧ j < (n : Int) → ∃ e : Int, (row r c / g) * (row i j / g) = d * e + (row i c / g) * (row r j / g) := by
      intro r c i j hr hc hi hj
      have h := hm2 r c i j hr hc hi hj
      rw [hB r c hr hc, hB i j hi hj, hB i c hi hc, hB r j hr hj, hd] at h
      generalize row r c / (g : Int) = x at *
      generalize row i j / (g : Int) = y at *
      generalize row i c / (g : Int) = z at *
      generalize row r j / (g : Int) = w at *
      rw [show (g : Int) * x * (g * y) - g * z * (g * w) = (g * g : Int) * (x * y - z * w) by grind, Int.natCast_mul, Int.natCast_mul] at h
      obtain ⟨e, he⟩ := Int.dvd_of_mul_dvd_mul_left (Int.mul_ne_zero hgZ hgZ) h
      exact ⟨e, by omega⟩
    have eM : dZ row [r1, r2, r3] [c1, c2, c3] = (g * g * g : Int) * d3 (row r1 c1 / g) (row r1 c2 / g) (row r1 c3 / g) (row r2 c1 / g) (row r2 c2 / g) (row r2 c3 / g) (row r3 c1 / g) (row r3 c2 / g) (row r3 c3 / g) := by
      rw [dZ3, hB r1 c1 R1 C1, hB r1 c2 R1 C2, hB r1 c3 R1 C3, hB r2 c1 R2 C1, hB r2 c2 R2 C2, hB r2 c3 R2 C3, hB r3 c1 R3 C1, hB r3 c2 R3 C2, hB r3 c3 R3 C3]
      have hk : ∀ x : Int, (g : Int) * x / g = x := fun x => Int.mul_ediv_cancel_left x hgZ
      simp only [hk]
      unfold d3
      grind
    have hp : ∀ r c : Int, 0 ≤ r ∧ r < (n : Int) → 0 ≤ c ∧ c < (n : Int) → (d : Int) * d ∣ (row r c / g) * (row r c / g) * (row r c / g) * d3 (row r1 c1 / g) (row r1 c2 / g) (row r1 c3 / g) (row r2 c1 / g) (row r2 c2 / g) (row r2 c3 / g) (row r3 c1 / g) (row r3 c2 / g) (row r3 c3 / g) := by
      intro r c hr hc
      obtain ⟨e11, h11⟩ := hC' r c r1 c1 hr hc R1 C1
      obtain ⟨e12, h12⟩ := hC' r c r1 c2 hr hc R1 C2
      obtain ⟨e13, h13⟩ := hC' r c r1 c3 hr hc R1 C3
      obtain ⟨e21, h21⟩ := hC' r c r2 c1 hr hc R2 C1
      obtain ⟨e22, h22⟩ := hC' r c r2 c2 hr hc R2 C2
      obtain ⟨e23, h23⟩ := hC' r c r2 c3 hr hc R2 C3
      obtain ⟨e31, h31⟩ := hC' r c r3 c1 hr hc R3 C1
      obtain ⟨e32, h32⟩ := hC' r c r3 c2 hr hc R3 C2
      obtain ⟨e33, h33⟩ := hC' r c r3 c3 hr hc R3 C3
      exact pivot3 _ _ _ _ _ _ _ _ _ _ _ _ _ _ _ _ _ _ _ _ _ _ _ _ _ _ h11 h12 h13 h21 h22 h23 h31 h32 h33
    rw [eM]
    generalize d3 (row r1 c1 / g) (row r1 c2 / g) (row r1 c3 / g) (row r2 c1 / g) (row r2 c2 / g) (row r2 c3 / g) (row r3 c1 / g) (row r3 c2 / g) (row r3 c3 / g) = M at *
    have hcube : d * d * g ^ 3 ∣ gl (minors row n 1) ^ 3 * M.natAbs := by
      refine gl_cube _ _ _ fun x hx => ?_
      obtain ⟨R', hR', C', hC'', rfl⟩ := mem_minors.1 hx
      rw [H 1 (by omega) R' hR' C' hC'']
      obtain ⟨_, g1, _⟩ := sets_facts n 1 hn (by omega)
      obtain ⟨l1', m1', _⟩ := g1 R' hR'
      obtain ⟨l2', m2', _⟩ := g1 C' hC''
      obtain ⟨r, rfl⟩ := len1 l1'
      obtain ⟨c, rfl⟩ := len1 l2'
      have hr := m1' r (by simp)
      have hc := m2' c (by simp)
      rw [dZ1, hB r c hr hc]
      have h := hp r c hr hc
      generalize row r c / (g : Int) = b at *
      rw [← Int.natCast_mul, Int.ofNat_dvd_left, Int.natAbs_mul, Int.natAbs_mul, Int.natAbs_mul] at h
      rw [Int.natAbs_mul, Int.natAbs_natCast]
      obtain ⟨w, hw⟩ := h
      refine ⟨w, ?_⟩
      generalize b.natAbs = B at *
      generalize M.natAbs = N at *
      rw [show (g * B) ^ 3 * N = g ^ 3 * (B * B * B * N) by clear hw; grind, hw]
      grind
    rw [← hgl, Nat.mul_comm (g ^ 3)] at hcube
    have hM := Nat.dvd_of_mul_dvd_mul_right (Nat.pow_pos (Nat.pos_of_ne_zero hg)) hcube
    rw [hd, Int.natAbs_mul, Int.natAbs_mul, Int.natAbs_mul, Int.natAbs_natCast]
    obtain ⟨w, hw⟩ := hM
    rw [hw]
    exact ⟨w, by grind⟩
  have := gl_lin (gk row n 2 * gk row n 2) (gk row n 1) (minors row n 3) fun x hx => by
    obtain ⟨R, hR, C, hC, rfl⟩ := mem_minors.1 hx
    exact hlin R hR C hC
  rw [Nat.mul_comm (gk row n 1)]
  exact this
end
theorem chain3 {row : Int → Int → Int} (H : ∀ k, k ≤ 6 → ∀ R ∈ setsL 4 k, ∀ C ∈ setsL 4 k, dF row R C = dZ row R C) : gk row 4 3 * gk row 4 3 ∣ gk row 4 2 * gk row 4 4 := by
  have e4 : setsL 4 4 = [[0, 1, 2, 3]] := by decide +kernel
  have hD : gk row 4 4 = (dZ row [0, 1, 2, 3] [0, 1, 2, 3]).natAbs := by
    rw [← H 4 (by omega) _ (by rw [e4]; simp) _ (by rw [e4]; simp)]
    simp [gk, minors, e4, gl]
  rw [hD]
  refine gl_lin _ _ (minors row 4 2) fun x hx => ?_
  obtain ⟨R, hR, C, hC, rfl⟩ := mem_minors.1 hx
  rw [H 2 (by omega) R hR C hC]
  obtain ⟨P, Q, S, T, hP, hQ, hS, hT, e⟩ := jac row R hR C hC
  have q := (dvd_gkZ (show 4 ≤ 6 by omega) H 3 _ (by omega)).1 (Nat.dvd_refl _)
  rw [← Int.natAbs_mul, ← Int.ofNat_dvd_left, Int.mul_comm, e, Int.natCast_mul]
  exact Int.dvd_sub (Int.mul_dvd_mul (q P hP S hS) (q Q hQ T hT)) (Int.mul_dvd_mul (q P hP T hT) (q Q hQ S hS))
end Go.Proofs.Ytplcclifmajcfaa.Smith
end
section
set_option autoImplicit false
set_option linter.unusedVariables false
namespace Go.Proofs.Ytplcclifmajcfaa.Reduce
def sumN (f : Nat → Int) : Nat → Int
  | 0 => 0
  | n + 1 => sumN f n + f n
theorem sumN_congr {f g : Nat → Int} {n : Nat} (h : ∀ i, i < n → f i = g i) : sumN f n = sumN g n := by
  induction n with
  | zero => rfl
  | succ n ih => simp only [sumN]; rw [ih (fun i hi => h i (by omega)), h n (by omega)]
theorem sumN_le {f g : Nat → Int} {n : Nat} (h : ∀ i, i < n → f i ≤ g i) : sumN f n ≤ sumN g n := by
  induction n with
  | zero => exact Int.le_refl _
  | succ n ih =>
    simp only [sumN]
    have h1 := ih (fun i hi => h i (by omega))
    have h2 := h n (by omega)
    omega
theorem sumN_add (f g : Nat → Int) (n : Nat) : sumN (fun i => f i + g i) n = sumN f n + sumN g n := by
  induction n with
  | zero => rfl
  | succ n ih => simp only [sumN, ih]; omega
theorem sumN_zero (n : Nat) : sumN (fun _ => 0) n = 0 := by
  induction n with
  | zero => rfl
  | succ n ih => simp only [sumN, ih]; rfl
theorem sumN_nonneg {f : Nat → Int} {n : Nat} (h : ∀ i, i < n → 0 ≤ f i) : 0 ≤ sumN f n := by
  have := sumN_le (f := fun _ => 0) (g := f) (n := n) h
  rwa [sumN_zero] at this
theorem sumN_one {f : Nat → Int} {n j : Nat} (hj : j < n) (h : ∀ i, i < n → 0 ≤ f i) : f j ≤ sumN f n := by
  induction n with
  | zero => omega
  | succ n ih =>
    simp only [sumN]
    by_cases e : j = n
    · subst e
      have := sumN_nonneg (f := f) (n := j) (fun i hi => h i (by omega))
      omega
    · have h1 := ih (by omega) (fun i hi => h i (by omega))
      have h2 := h n (by omega)
      omega
theorem sumN_upd (f : Nat → Int) (n j : Nat) (x : Int) (hj : j < n) : sumN (fun i => if i = j then x else f i) n = sumN f n + x - f j := by
  induction n with
  | zero => omega
  | succ n ih =>
    simp only [sumN]
    by_cases e : j = n
    · subst e
      rw [sumN_congr (g := f) (fun i hi => if_neg (by omega))]
      simp
      omega
    · rw [ih (by omega), if_neg (by omega)]
      omega
def Conn (n : Nat) (m : Nat → Nat → Int) (q : Nat) : Prop := ∀ P : Nat → Prop, P q → (∀ v w, v < n → w < n → 0 < m v w → P v → P w) → ∀ v, v < n → P v
structure Gr (n : Nat) (m : Nat → Nat → Int) : Prop where
  pos : 0 < n
  six : n ≤ 6
  sym : ∀ v w, m v w = m w v
  nonneg : ∀ v w, 0 ≤ m v w
  self : ∀ v, m v v = 0
  val : ∀ v, v < n → sumN (m v) n ≤ 12
  conn : Conn n m 0
end Go.Proofs.Ytplcclifmajcfaa.Reduce
end
section
set_option autoImplicit false
set_option linter.unusedSimpArgs false
namespace Go.Proofs.Ytplcclifmajcfaa.Trees
open Go.RowKit Go.Proofs.YtplcclifmajcfaaW.PrintWords Go.Proofs.YtplcclifmajcfaaW.PrintLast Go.Proofs.YtplcclifmajcfaaW.PrintMore Go.Proofs.Ytplcclifmajcfaa.Base Go.Proofs.Ytplcclifmajcfaa.Det Go.Proofs.Ytplcclifmajcfaa.Minor Go.Proofs.Ytplcclifmajcfaa.Smith Go.Proofs.Ytplcclifmajcfaa.Reduce
theorem pos_of {a b : Int} (h : 0 < a * b) (ha : 0 < a) : 0 < b := by
  rcases Int.lt_or_le 0 b with hb | hb
  · exact hb
  · have := Int.mul_le_mul_of_nonneg_left hb (Int.le_of_lt ha)
    rw [Int.mul_zero] at this
    omega
theorem schur4 (a b c d e f g h i j k l m n o p : Int) : p * p * d4 a b c d e f g h i j k l m n o p = d3 (p*a-d*m) (p*b-d*n) (p*c-d*o) (p*e-h*m) (p*f-h*n) (p*g-h*o) (p*i-l*m) (p*j-l*n) (p*k-l*o) := by
  unfold d4 d3; grind
theorem schur3 (a b c d e f g h i : Int) : i * d3 a b c d e f g h i = (i*a-c*g)*(i*e-f*h)-(i*b-c*h)*(i*d-f*g) := by
  unfold d3; grind
structure Wt (n : Nat) (w : Nat → Nat → Int) : Prop where
  nonneg : ∀ v u, 0 ≤ w v u
  self : ∀ v, w v v = 0
  sym : ∀ v u, w v u = w u v
  conn : Conn n w 0
def la (n : Nat) (w : Nat → Nat → Int) (i j : Nat) : Int := if i = j then sumN (w i) n else - w i j
def elim (m : Nat) (w : Nat → Nat → Int) (i j : Nat) : Int := if i = j then 0 else sumN (w m) m * w i j + w i m * w m j
theorem last_pos {m : Nat} {w : Nat → Nat → Int} (W : Wt (m + 1) w) (hm : 1 ≤ m) : 0 < sumN (w m) m := by
  rcases Int.lt_or_le 0 (sumN (w m) m) with h | h
  · exact h
  · exfalso
    have hz : ∀ j, j < m → w m j = 0 := fun j hj => by
      have := sumN_one (f := w m) (n := m) hj (fun i _ => W.nonneg m i)
      have := W.nonneg m j
      omega
    have := W.conn (fun v => v ≠ m) (by omega) (fun v u hv hu hw hvm hum => by
      subst hum
      have h1 := hz v (by omega)
      rw [W.sym] at h1
      omega) m (by omega)
    exact this rfl
theorem elim_wt {m : Nat} {w : Nat → Nat → Int} (W : Wt (m + 1) w) (hm : 1 ≤ m) : Wt m (elim m w) := by
  have ht := last_pos W hm
  have hle : ∀ i j, i ≠ j → 0 ≤ sumN (w m) m * w i j ∧ 0 ≤ w i m * w m j := fun i j _ => ⟨Int.mul_nonneg (by omega) (W.nonneg i j), Int.mul_nonneg (W.nonneg i m) (W.nonneg m j)⟩
  refine ⟨fun v u => ?_, fun v => by simp [elim], fun v u => ?_, fun P hP hcl v hv => ?_⟩
  · unfold elim
    split
    · omega
    · rename_i h
      have := hle v u h
      omega
  · unfold elim
    by_cases h : v = u
    · rw [if_pos h, if_pos h.symm]
    · rw [if_neg h, if_neg (fun e => h e.symm), W.sym v u, W.sym v m, W.sym m u, Int.mul_comm (w m v)]
  · have key := W.conn (fun v => (v < m ∧ P v) ∨ (v = m ∧ ∃ j, j < m ∧ 0 < w j m ∧ P j)) (Or.inl ⟨by omega, hP⟩) (fun v u hv hu hw h => by
      have hwu := W.sym v u
      rcases h with ⟨h1, h2⟩ | ⟨rfl, j, hj, hjw, hPj⟩
      · by_cases e : u = m
        · subst e
          exact Or.inr ⟨rfl, v, h1, hw, h2⟩
        · refine Or.inl ⟨by omega, hcl v u h1 (by omega) ?_ h2⟩
          have hne : v ≠ u := fun e' => by subst e'; have := W.self v; omega
          unfold elim
          rw [if_neg hne]
          have h3 := (hle v u hne).2
          have h4 := Int.mul_pos ht hw
          omega
      · have hum : u ≠ v := fun e => by subst e; have := W.self u; omega
        refine Or.inl ⟨by omega, ?_⟩
        by_cases e : j = u
        · subst e; exact hPj
        · refine hcl j u hj (by omega) ?_ hPj
          unfold elim
          rw [if_neg e]
          have h3 := (hle j u e).1
          have h4 := Int.mul_pos hjw hw
          omega) v (by omega)
    rcases key with ⟨_, h⟩ | ⟨h, _⟩
    · exact h
    · omega
theorem elim_la {m : Nat} {w : Nat → Nat → Int} (W : Wt (m + 1) w) (i j : Nat) (hi : i < m) (hj : j < m) : la m (elim m w) i j = la (m + 1) w m m * la (m + 1) w i j - la (m + 1) w i m * la (m + 1) w m j := by
  have et : la (m + 1) w m m = sumN (w m) m := by simp [la, sumN, W.self]
  rw [et]
  by_cases e : i = j
  · subst e
    have e1 : la (m + 1) w i i = sumN (w i) m + w i m := by simp [la, sumN]
    have e2 : la (m + 1) w i m = - w i m := by unfold la; rw [if_neg (by omega)]
    have e3 : la (m + 1) w m i = - w m i := by unfold la; rw [if_neg (by omega)]
    have e4 : la m (elim m w) i i = sumN (elim m w i) m := by simp [la]
    rw [e1, e2, e3, e4]
    have main : ∀ k, k ≤ m → sumN (elim m w i) k = sumN (w m) m * sumN (w i) k + w i m * sumN (w m) k - (if i < k then w i m * w m i else 0) := by
      intro k
      induction k with
      | zero => intro _; simp [sumN]
      | succ k ih =>
        intro hk
        simp only [sumN, ih (by omega)]
        unfold elim
        have hs := W.self i
        by_cases c : i = k
        · subst c
          rw [if_pos rfl, if_neg (by omega), if_pos (by omega), hs]
          grind
        · rw [if_neg c]
          by_cases c2 : i < k
          · rw [if_pos c2, if_pos (by omega)]; grind
          · rw [if_neg c2, if_neg (by omega)]; grind
    rw [main m (Nat.le_refl _), if_pos hi]
    grind
  · unfold la elim
    simp only [if_neg e, if_neg (show ¬ i = m by omega), if_neg (show ¬ m = j by omega)]
    grind
theorem pos2 {w : Nat → Nat → Int} (W : Wt 2 w) : 0 < la 2 w 1 1 := by
  have := last_pos W (by omega)
  have e : la 2 w 1 1 = sumN (w 1) 1 + w 1 1 := by simp [la, sumN]
  rw [e, W.self]
  omega
theorem diag_pos {m : Nat} {w : Nat → Nat → Int} (W : Wt (m + 1) w) (hm : 1 ≤ m) : 0 < la (m + 1) w m m := by
  have := last_pos W hm
  have e : la (m + 1) w m m = sumN (w m) m := by simp [la, sumN, W.self]
  omega
theorem pos3 {w : Nat → Nat → Int} (W : Wt 3 w) : 0 < la 3 w 1 1 * la 3 w 2 2 - la 3 w 1 2 * la 3 w 2 1 := by
  have h := pos2 (elim_wt W (by omega))
  rw [elim_la W 1 1 (by omega) (by omega)] at h
  grind
theorem pos4 {w : Nat → Nat → Int} (W : Wt 4 w) : 0 < d3 (la 4 w 1 1) (la 4 w 1 2) (la 4 w 1 3) (la 4 w 2 1) (la 4 w 2 2) (la 4 w 2 3) (la 4 w 3 1) (la 4 w 3 2) (la 4 w 3 3) := by
  have h := pos3 (elim_wt W (by omega))
  rw [elim_la W 1 1 (by omega) (by omega), elim_la W 1 2 (by omega) (by omega), elim_la W 2 1 (by omega) (by omega), elim_la W 2 2 (by omega) (by omega), ← schur3] at h
  exact pos_of h (diag_pos W (by omega))
theorem pos5 {w : Nat → Nat → Int} (W : Wt 5 w) : 0 < d4 (la 5 w 1 1) (la 5 w 1 2) (la 5 w 1 3) (la 5 w 1 4) (la 5 w 2 1) (la 5 w 2 2) (la 5 w 2 3) (la 5 w 2 4) (la 5 w 3 1) (la 5 w 3 2) (la 5 w 3 3) (la 5 w 3 4) (la 5 w 4 1) (la 5 w 4 2) (la 5 w 4 3) (la 5 w 4 4) := by
  have h := pos4 (elim_wt W (by omega))
  rw [elim_la W 1 1 (by omega) (by omega), elim_la W 1 2 (by omega) (by omega), elim_la W 1 3 (by omega) (by omega), elim_la W 2 1 (by omega) (by omega), elim_la W 2 2 (by omega) (by omega), elim_la W 2 3 (by omega) (by omega), elim_la W 3 1 (by omega) (by omega), elim_la W 3 2 (by omega) (by omega), elim_la W 3 3 (by omega) (by omega), ← schur4] at h
  have hp := diag_pos W (by omega)
  exact pos_of h (Int.mul_pos hp hp)
theorem zero_a (a b c d f g h i k l m n p q r s e1 e2 e3 e4 : Int) (h1 : e1 = -(a + b + c + d)) (h2 : e2 = -(f + g + h + i)) (h3 : e3 = -(k + l + m + n)) (h4 : e4 = -(p + q + r + s)) : d4 b c d e1 g h i e2 l m n e3 q r s e4 = d4 a b c d f g h i k l m n p q r s := by
  subst h1 h2 h3 h4; unfold d4 d3; grind
theorem zero_b (a b c d f g h i k l m n p q r s e1 e2 e3 e4 : Int) (h1 : e1 = -(a + b + c + d)) (h2 : e2 = -(f + g + h + i)) (h3 : e3 = -(k + l + m + n)) (h4 : e4 = -(p + q + r + s)) : d4 a c d e1 f h i e2 k m n e3 p r s e4 = - d4 a b c d f g h i k l m n p q r s := by
  subst h1 h2 h3 h4; unfold d4 d3; grind
theorem zero_c (a b c d f g h i k l m n p q r s e1 e2 e3 e4 : Int) (h1 : e1 = -(a + b + c + d)) (h2 : e2 = -(f + g + h + i)) (h3 : e3 = -(k + l + m + n)) (h4 : e4 = -(p + q + r + s)) : d4 a b d e1 f g i e2 k l n e3 p q s e4 = d4 a b c d f g h i k l m n p q r s := by
  subst h1 h2 h3 h4; unfold d4 d3; grind
theorem zero_d (a b c d f g h i k l m n p q r s e1 e2 e3 e4 : Int) (h1 : e1 = -(a + b + c + d)) (h2 : e2 = -(f + g + h + i)) (h3 : e3 = -(k + l + m + n)) (h4 : e4 = -(p + q + r + s)) : d4 a b c e1 f g h e2 k l m e3 p q r e4 = - d4 a b c d f g h i k l m n p q r s := by
  subst h1 h2 h3 h4; unfold d4 d3; grind
theorem zero5 (row : Int → Int → Int) (h : ∀ r : Int, 0 ≤ r → r < 5 → row r 4 = -(row r 0 + row r 1 + row r 2 + row r 3)) : dZ row [0, 1, 2, 3, 4] [0, 1, 2, 3, 4] = 0 := by
  have h0 := h 0 (by omega) (by omega)
  have h1 := h 1 (by omega) (by omega)
  have h2 := h 2 (by omega) (by omega)
  have h3 := h 3 (by omega) (by omega)
  have h4 := h 4 (by omega) (by omega)
  rw [dZs5, dZ4, dZ4, dZ4, dZ4, dZ4, zero_a _ _ _ _ _ _ _ _ _ _ _ _ _ _ _ _ _ _ _ _ h1 h2 h3 h4, zero_b _ _ _ _ _ _ _ _ _ _ _ _ _ _ _ _ _ _ _ _ h1 h2 h3 h4, zero_c _ _ _ _ _ _ _ _ _ _ _ _ _ _ _ _ _ _ _ _ h1 h2 h3 h4, zero_d _ _ _ _ _ _ _ _ _ _ _ _ _ _ _ _ _ _ _ _ h1 h2 h3 h4, h0]
  grind
theorem zero4 (row : Int → Int → Int) (h : ∀ r : Int, 0 ≤ r → r < 4 → row r 3 = -(row r 0 + row r 1 + row r 2)) : dZ row [0, 1, 2, 3] [0, 1, 2, 3] = 0 := by
  rw [dZ4, h 0 (by omega) (by omega), h 1 (by omega) (by omega), h 2 (by omega) (by omega), h 3 (by omega) (by omega)]
  unfold d4 d3
  grind
theorem zero3 (row : Int → Int → Int) (h : ∀ r : Int, 0 ≤ r → r < 3 → row r 2 = -(row r 0 + row r 1)) : dZ row [0, 1, 2] [0, 1, 2] = 0 := by
  rw [dZ3, h 0 (by omega) (by omega), h 1 (by omega) (by omega), h 2 (by omega) (by omega)]
  unfold d3
  grind
theorem zero2 (row : Int → Int → Int) (h : ∀ r : Int, 0 ≤ r → r < 2 → row r 1 = - row r 0) : dZ row [0, 1] [0, 1] = 0 := by
  rw [dZ2, h 0 (by omega) (by omega), h 1 (by omega) (by omega)]
  grind
end Go.Proofs.Ytplcclifmajcfaa.Trees
end
section
set_option autoImplicit false
set_option linter.unusedSectionVars false
namespace Go.Proofs.Ytplcclifmajcfaa.Factors
def fs (G : Nat → Nat) (m : Nat) : List Nat := (List.range m).map fun k => G (k + 1) / G k
def prodN : List Nat → Nat
  | [] => 1
  | a :: l => a * prodN l
theorem prodN_append (l : List Nat) (a : Nat) : prodN (l ++ [a]) = prodN l * a := by
  induction l with
  | nil => simp [prodN]
  | cons b l ih => simp only [List.cons_append, prodN, ih, Nat.mul_assoc]
theorem fs_succ (G : Nat → Nat) (m : Nat) : fs G (m + 1) = fs G m ++ [G (m + 1) / G m] := by
  unfold fs
  rw [List.range_succ, List.map_append]; rfl
theorem fs_len (G : Nat → Nat) (m : Nat) : (fs G m).length = m := by simp [fs]
theorem quot_dvd {a b c : Nat} (ha : a ≠ 0) (hb : b ≠ 0) (h1 : a ∣ b) (h2 : b ∣ c) (h : b * b ∣ a * c) : b / a ∣ c / b := by
  obtain ⟨p, rfl⟩ := h1
  obtain ⟨q, rfl⟩ := h2
  rw [Nat.mul_div_cancel_left p (by omega), Nat.mul_div_cancel_left q (by omega)]
  have hp : 0 < a * a * p := by
    have h0 : 0 < a := by omega
    have hp : 0 < p := Nat.pos_of_ne_zero fun e => hb (by rw [e, Nat.mul_zero])
    exact Nat.mul_pos (Nat.mul_pos h0 h0) hp
  refine Nat.dvd_of_mul_dvd_mul_left hp ?_
  rw [show a * a * p * p = a * p * (a * p) by grind, show a * a * p * q = a * (a * p * q) by grind]
  exact h
section
variable {G : Nat → Nat} {M : Nat} (h0 : G 0 = 1) (hG : ∀ k, k ≤ M → G k ≠ 0) (hd : ∀ k, k < M → G k ∣ G (k + 1)) (hc : ∀ k, k + 2 ≤ M → G (k + 1) * G (k + 1) ∣ G k * G (k + 2))
include h0 hG hd in
theorem prod_fs : ∀ m, m ≤ M → prodN (fs G m) = G m := by
  intro m
  induction m with
  | zero => intro _; simp [fs, prodN, h0]
  | succ m ih =>
    intro hm
    rw [fs_succ, prodN_append, ih (by omega), Nat.mul_div_cancel' (hd m (by omega))]
include hG hd in
theorem fs_pos : ∀ m, m ≤ M → ∀ a ∈ fs G m, 0 < a := by
  intro m hm a ha
  unfold fs at ha
  rw [List.mem_map] at ha
  obtain ⟨k, hk, rfl⟩ := ha
  rw [List.mem_range] at hk
  have := hG k (by omega)
  exact Nat.div_pos (Nat.le_of_dvd (Nat.pos_of_ne_zero (hG (k + 1) (by omega))) (hd k (by omega))) (by omega)
include hG hd hc in
theorem fs_last : ∀ m, m < M → ∀ a ∈ fs G (m + 1), a ∣ G (m + 1) / G m := by
  intro m
  induction m with
  | zero =>
    intro _ a ha
    rw [fs_succ] at ha
    simp [fs] at ha
    rw [ha]; exact Nat.dvd_refl _
  | succ m ih =>
    intro hm a ha
    rw [fs_succ, List.mem_append, List.mem_singleton] at ha
    rcases ha with h | rfl
    · exact Nat.dvd_trans (ih (by omega) a h) (quot_dvd (hG m (by omega)) (hG (m + 1) (by omega)) (hd m (by omega)) (hd (m + 1) (by omega)) (hc m (by omega)))
    · exact Nat.dvd_refl _
include hG hd hc in
theorem fs_pair : ∀ m, m ≤ M → (fs G m).Pairwise (· ∣ ·) := by
  intro m
  induction m with
  | zero => intro _; simp [fs]
  | succ m ih =>
    intro hm
    rw [fs_succ, List.pairwise_append]
    refine ⟨ih (by omega), by simp, fun a ha b hb => ?_⟩
    rw [List.mem_singleton] at hb
    subst hb
    exact fs_last hG hd hc m (by omega) a (by rw [fs_succ]; exact List.mem_append_left _ ha)
end
theorem prod_filter : ∀ l : List Nat, (∀ a ∈ l, 0 < a) → prodN (l.filter fun a => decide (1 < a)) = prodN l := by
  intro l
  induction l with
  | nil => intro _; rfl
  | cons a l ih =>
    intro h
    have h1 := ih (fun b hb => h b (by simp [hb]))
    have h2 := h a (by simp)
    rw [List.filter_cons]
    by_cases c : 1 < a
    · rw [if_pos (by simpa using c)]
      simp only [prodN, h1]
    · rw [if_neg (by simpa using c), h1]
      obtain rfl : a = 1 := by omega
      simp [prodN]
theorem prod_pos : ∀ l : List Nat, (∀ a ∈ l, 0 < a) → 0 < prodN l := by
  intro l
  induction l with
  | nil => intro _; simp [prodN]
  | cons a l ih => intro h; exact Nat.mul_pos (h a (by simp)) (ih (fun b hb => h b (by simp [hb])))
theorem filter_cast (l : List Nat) : (l.map fun a : Nat => (a : Int)).filter (fun x => decide (1 < x)) = (l.filter fun a => decide (1 < a)).map fun a : Nat => (a : Int) := by
  rw [List.filter_map]
  congr 1
  refine List.filter_congr fun a _ => ?_
  simp only [Function.comp]
  by_cases c : 1 < a
  · rw [decide_eq_true c, decide_eq_true (by omega)]
  · rw [decide_eq_false c, decide_eq_false (by omega)]
theorem pair_next {l : List Nat} (h : l.Pairwise (· ∣ ·)) {i a b : Nat} {rest : List Nat} (hd : l.drop i = a :: b :: rest) : a ∣ b := by
  have := h.sublist (List.drop_sublist i l)
  rw [hd, List.pairwise_cons] at this
  exact this.1 b (by simp)
end Go.Proofs.Ytplcclifmajcfaa.Factors
end
section
set_option autoImplicit false
set_option linter.unusedVariables false
namespace Go.Proofs.Ytplcclifmajcfaa.Opens
open Go.RowKit Go.ChangeShapes Go.WideShapes Go.Deep
open Go.Proofs.YtplcclifmajcfaaW.PrintWords Go.Proofs.YtplcclifmajcfaaW.PrintLast Go.Proofs.YtplcclifmajcfaaW.PrintMore
def Opens {α : Type} (P : Program) (t : TypeId) (d : Kd α) (wf : α → Prop) : Prop :=
  ∀ {H : Type} {enc : TypeId × Value → H} {w : World} {base : Nat} {spare : Nat → Bool} {held : Bool} {fuel : Nat} {cs : List Value} {x : DataW H × List MemPlace},
    DataW.trod enc P w base spare held fuel t cs = some x → ∃ a, d.K w a cs ∧ wf a
theorem opens_int {P : Program} {t : TypeId} {k : IntKind} (ht : P.underlying t = some (.int k)) : Opens P t (Kd.int k) (fun n => (Lit.int k n).wf = true) := by
  intro H enc w base spare held fuel cs x h
  obtain ⟨n, rfl, _, hw⟩ := DataW.trod_int ht h
  exact ⟨n, rfl, hw⟩
theorem pick {α : Type} {p : Nat → α → Prop} : ∀ n : Nat, (∀ i, i < n → ∃ a, p i a) → ∃ l : List α, l.length = n ∧ ∀ (i : Nat) (a : α), l[i]? = some a → p i a := by
  intro n
  induction n with
  | zero => intro _; exact ⟨[], rfl, fun i a h => by simp at h⟩
  | succ n ih =>
    intro h
    obtain ⟨l, hl, hp⟩ := ih (fun i hi => h i (by omega))
    obtain ⟨a, ha⟩ := h n (by omega)
    refine ⟨l ++ [a], by simp [hl], fun i b hb => ?_⟩
    by_cases e : i < n
    · rw [List.getElem?_append_left (by omega)] at hb
      exact hp i b hb
    · have e' : i = n := by
        have := (List.getElem?_eq_some_iff.1 hb).1
        simp [hl] at this
        omega
      subst e'
      rw [List.getElem?_append_right (by omega), hl] at hb
      simp at hb
      subst hb
      exact ha
theorem opens_slice {α : Type} {P : Program} {t e : TypeId} {d : Kd α} {wf : α → Prop} (ht : P.underlying t = some (.slice e)) (hs : P.cellsOf e = d.sz) (he : Opens P e d wf) :
    Opens P t (Kd.slice e d) (fun l => l.length ≤ maxLen ∧ ∀ x ∈ l, wf x) := by
  intro H enc w base spare held fuel cs x h
  rcases open_slice ht h with ⟨rfl, _⟩ | ⟨a, len, cap, m, n, D, Pl, rfl, hb, hl, hm, hmm, rfl, hx⟩
  · exact ⟨[], ⟨none, 0, rfl, Nat.le_refl _, rfl, Nat.zero_le _, fun h => absurd h (Nat.lt_irrefl 0)⟩, Nat.zero_le _, fun x hx => by cases hx⟩
  · have hlm : len ≤ m := by rw [hmm]; split <;> omega
    obtain ⟨l, hlen, hp⟩ := pick (p := fun i y => (∃ c : List Value, c.length = d.sz ∧ d.K w y c ∧ ∀ (j : Nat) (u : Value), c[j]? = some u → w.cell? (a.add (i * d.sz + j)) = some u) ∧ wf y) len (fun i hi => by
      obtain ⟨cs', h1, h2⟩ := hx i (by omega)
      obtain ⟨_, hlen, hcell⟩ := World.cells?_some h1
      obtain ⟨y, ky, wy⟩ := he h2
      refine ⟨y, ⟨cs', by rw [hlen, hs], ky, fun j u hu => ?_⟩, wy⟩
      have hj : j < P.cellsOf e := by
        have := (List.getElem?_eq_some_iff.1 hu).1
        omega
      have := hcell j hj
      rw [Deep.add_add, hs] at this
      rw [this, hu])
    subst hlen
    have hM : l.length ≤ maxLen := Nat.le_trans hl hm
    refine ⟨l, ⟨some a, cap, rfl, hl, rfl, by unfold maxLen at hM; exact hM, fun _ => ⟨a, rfl, fun j p hj => ?_⟩⟩, hM, fun x hx => ?_⟩
    · obtain ⟨⟨c, h1, h2, h3⟩, _⟩ := hp j p hj
      exact ⟨c, h1, h2, h3⟩
    · obtain ⟨i, hi⟩ := List.mem_iff_getElem?.1 hx
      exact (hp i x hi).2
theorem arg_slice {α : Type} {P : Program} {t e : TypeId} {d : Kd α} {wf : List α → Prop} {H : Type} {enc : TypeId × Value → H} {w : World} {base : Nat} {spare : Nat → Bool} {held : Bool} {r : Reach} {b0 : Nat} {v : Value} {x : DataW H} {ps : List MemPlace}
    (ht : P.underlying t = some (.slice e)) (ho : Opens P t (Kd.slice e d) wf) (hval : Value.okWide P w r b0 t v) (h : DataW.Trod enc P w base spare held t v x ps) :
    ∃ (A : Option Addr) (c : Nat) (l : List α), v = .slice A l.length c ∧ l.length ≤ c ∧ Kd.C d w A l.length l ∧ wf l := by
  obtain ⟨A, n, c, rfl⟩ := okWide_slice ht hval
  obtain ⟨fuel, hf⟩ := h
  obtain ⟨l, ⟨A', c', hcs, hl, hC⟩, hw⟩ := ho hf
  simp [Value.cells] at hcs
  obtain ⟨rfl, rfl, rfl⟩ := hcs
  exact ⟨A, c, l, rfl, hl, hC, hw⟩
end Go.Proofs.Ytplcclifmajcfaa.Opens
end
