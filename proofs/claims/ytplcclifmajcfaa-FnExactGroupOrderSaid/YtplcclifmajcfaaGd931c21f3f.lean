/- Functions of the program as plain Lean functions and that the machine's calls answer as they do, the words of the print that these use, lemmas and plain proofs of laws. Put together by a program of this work that leaves out what nothing uses; Lean checks it. -/
import Derived.Test.YtplcclifmajcfaaG57aacc24f0
import Derived.Test.YtplcclifmajcfaaG235d00e4a6
import Derived.Test.YtplcclifmajcfaaG252cba46f1
import Derived.Test.YtplcclifmajcfaaG41589f03eb
import Derived.Test.YtplcclifmajcfaaGe832e089c5
section
namespace Go.Proofs.Ytplcclifmajcfaa.P
open Go.RowKit Go.Proofs.YtplcclifmajcfaaW.PrintWords Go.Proofs.YtplcclifmajcfaaW.PrintLast Go.Proofs.YtplcclifmajcfaaW.PrintMore
attribute [local go_sem] max2_int min2_int max_two min_two max_three min_three max_four min_four
set_option linter.unusedVariables false
set_option linter.unusedSimpArgs false
mutual
def spec_MatrixOk.l0 : Nat → List (List Int) → List (List Int) → Int → Int → Option (Bool)
 | 0, _, _, _, _ => none
 | k + 1, x0, x10, x11, x12 => if x12 < x11 then (if 0 ≤ x12 then (if x12 < (x10.length : Int) then (if ((rd_L4 x10 x12).length : Int) = (x0.length : Int) then (spec_MatrixOk.l1 k x0 x10 x11 x12 (rd_L4 x10 x12) ((rd_L4 x10 x12).length : Int) 0) else (some false)) else (none)) else (none)) else (some true)
def spec_MatrixOk.l1 : Nat → List (List Int) → List (List Int) → Int → Int → List Int → Int → Int → Option (Bool)
 | 0, _, _, _, _, _, _, _ => none
 | k + 1, x0, x10, x11, x12, x21, x22, x23 => if x23 < x22 then (if 0 ≤ x23 then (if x23 < (x21.length : Int) then ((spec_l01In.f (rd x21 x23) (-500) 500).bind fun t401 => (if t401 = true then (spec_MatrixOk.l1 k x0 x10 x11 x12 x21 x22 (wrap64 (x23 + 1))) else (some false))) else (none)) else (none)) else (spec_MatrixOk.l0 k x0 x10 x11 (wrap64 (x12 + 1)))
end
def spec_MatrixOk.f (k : Nat) (l0 : List (List Int)) : Option (Bool) := if (l0.length : Int) > 6 then (some false) else (spec_MatrixOk.l0 k l0 l0 (l0.length : Int) 0)
set_option maxHeartbeats 8000000 in
set_option maxRecDepth 100000 in
theorem spec_MatrixOk.calls (k : Nat) (A0 : Option Addr) (c0 : Nat) (l0 : List (List Int)) (r : Bool) (w : World) (hr0 : Kd.C (Kd.slice 3 (Kd.int .i64)) w A0 l0.length l0) (hc0 : l0.length ≤ c0) (h : spec_MatrixOk.f k l0 = some r) :
  Calls Try.prog 54 #[.slice A0 l0.length c0] w fun e w' => e = .returned (.bool r) ∧ Drawn0 w w' := by
 have HR0 := Aside0.mk hr0
 have HC0 := Aside0.mk hc0
 clear hr0 hc0
 have H : (if (l0.length : Int) > 6 then (some false) else (spec_MatrixOk.l0 k l0 l0 (l0.length : Int) 0)) = some r := h
 clear h
 by_cases c2 : (l0.length : Int) > 6
 ·rw [if_pos c2] at H
  have c2b0 : decide (6 < (l0.length : Int)) = true := decide_eq_true c2
  have c2b1 : decide (6 < l0.length) = true := decide_eq_true (by omega)
  clear c2
  obtain rfl := Option.some.inj H
  go_enter Try.func54, Try.ntmps54
  go_wp2
  go_ret
  exact ⟨eqA, by repeat (first | exact Drawn0.refl _ | apply Drawn0.step)⟩
 rw [if_neg c2] at H
 have c2b0 : decide (6 < (l0.length : Int)) = false := decide_eq_false c2
 have c2b1 : decide (6 < l0.length) = false := decide_eq_false (by omega)
 clear c2
 have H' := Aside0.mk H
 clear H
 go_enter Try.func54, Try.ntmps54
 go_wp2
 go_loopg [12] k (fun kq v12 w' => ∃ (x12_1 : Int), v12 = .int .i64 x12_1 ∧ Aside0 (spec_MatrixOk.l0 kq l0 l0 (l0.length : Int) x12_1 = some r) ∧ Aside0 (kq ≤ k) ∧ Drawn0 w w')
 case atStart => exact ⟨(0), eqA, H', ⟨Nat.le_refl _⟩, by repeat (first | exact Drawn0.refl _ | apply Drawn0.step)⟩
 case round =>
  clear H'
  try clear c2
  try clear c2b0
  try clear c2b1
  obtain ⟨x12_1, rfl, HA, HK1, ⟨m1, rfl⟩⟩ := hrel
  cases gk with
  | zero => exact absurd HA.out (by simp [spec_MatrixOk.l0])
  | succ k1 =>
   have H := HA.out
   clear HA
   simp only [spec_MatrixOk.l0] at H
   by_cases c3 : x12_1 < (l0.length : Int)
   ·rw [if_pos c3] at H
    have c3b0 : decide (x12_1 < (l0.length : Int)) = true := decide_eq_true c3
    clear c3
    by_cases c4 : 0 ≤ x12_1
    ·rw [if_pos c4] at H
     have c4b0 : decide (0 ≤ x12_1) = true := decide_eq_true c4
     clear c4
     by_cases c5 : x12_1 < (l0.length : Int)
     ·rw [if_pos c5] at H
      have c5b0 : decide (x12_1 < (l0.length : Int)) = true := decide_eq_true c5
      clear c5
      by_cases c6 : ((rd_L4 l0 x12_1).length : Int) = (l0.length : Int)
      ·rw [if_pos c6] at H
       have c6b0 : (((rd_L4 l0 x12_1).length : Int) == (l0.length : Int)) = true := beq_iff_eq.mpr c6
       have c6b1 : (((rd_L4 l0 x12_1).length : Int) != (l0.length : Int)) = false := bne_eq_false_iff_eq.mpr c6
       have c6b2 : ((rd_L4 l0 x12_1).length == l0.length) = true := by first | simpa using c6 | (simp at c6 ⊢; omega)
       clear c6
       have H' := Aside0.mk H
       clear H
       have p399 : 0 ≤ (x12_1 : Int) := ofA
       have q399 : x12_1 < (l0.length : Int) := ofA
       obtain ⟨ad399, A399_0, c399_0, e399, hx399_0, hl399_0, hi399_0⟩ := at_L4 HR0.out x12_1 p399 q399
       cases e399
       have HR399_0 := Aside0.mk hi399_0
       have HC399_0 := Aside0.mk hl399_0
       clear hi399_0 hl399_0
       replace p399 := eq_true p399
       replace q399 := eq_true q399
       go_wp2
       go_loopg [23] k1 (fun kq v23 w' => ∃ (x23_2 : Int), v23 = .int .i64 x23_2 ∧ Aside0 (spec_MatrixOk.l1 kq l0 l0 (l0.length : Int) x12_1 (rd_L4 l0 x12_1) ((rd_L4 l0 x12_1).length : Int) x23_2 = some r) ∧ Aside0 (kq ≤ k1) ∧ Drawn0 w w')
       case atStart => exact ⟨(0), eqA, H', ⟨Nat.le_refl _⟩, by repeat (first | exact Drawn0.refl _ | apply Drawn0.step)⟩
       case round =>
        clear H'
        try clear c2
        try clear c2b0
        try clear c2b1
        try clear c3
        try clear c3b0
        try clear c4
        try clear c4b0
        try clear c5
        try clear c5b0
        try clear c6
        try clear c6b0
        try clear c6b1
        try clear c6b2
        try clear p399
        try clear q399
        obtain ⟨x23_2, rfl, HA, HK2, ⟨m2, rfl⟩⟩ := hrel
        cases gk with
        | zero => exact absurd HA.out (by simp [spec_MatrixOk.l1])
        | succ k2 =>
         have H := HA.out
         clear HA
         simp only [spec_MatrixOk.l1] at H
         by_cases c7 : x23_2 < ((rd_L4 l0 x12_1).length : Int)
         ·rw [if_pos c7] at H
          have c7b0 : decide (x23_2 < ((rd_L4 l0 x12_1).length : Int)) = true := decide_eq_true c7
          clear c7
          by_cases c8 : 0 ≤ x23_2
          ·rw [if_pos c8] at H
           have c8b0 : decide (0 ≤ x23_2) = true := decide_eq_true c8
           clear c8
           by_cases c9 : x23_2 < ((rd_L4 l0 x12_1).length : Int)
           ·rw [if_pos c9] at H
            have c9b0 : decide (x23_2 < ((rd_L4 l0 x12_1).length : Int)) = true := decide_eq_true c9
            clear c9
            replace H := Option.bind_eq_some_iff.mp H
            obtain ⟨t401, A100, H⟩ := H
            replace H : (if t401 = true then (spec_MatrixOk.l1 k2 l0 l0 (l0.length : Int) x12_1 (rd_L4 l0 x12_1) ((rd_L4 l0 x12_1).length : Int) (wrap64 (x23_2 + 1))) else (some false)) = some r := H
            have A10 := Aside0.mk A100
            clear A100
            by_cases c11 : t401 = true
            ·subst c11
             have H1 : (spec_MatrixOk.l1 k2 l0 l0 (l0.length : Int) x12_1 (rd_L4 l0 x12_1) ((rd_L4 l0 x12_1).length : Int) (wrap64 (x23_2 + 1))) = some r := by rw [if_pos rfl] at H; exact H
             clear H
             have H := H1
             clear H1
             have H' := Aside0.mk H
             clear H
             have p400 : 0 ≤ (x23_2 : Int) := ofA
             have q400 : x23_2 < ((rd_L4 l0 x12_1).length : Int) := ofA
             obtain ⟨ad400, e400, hx400_0⟩ := Kd.at_int HR399_0.out x23_2 p400 q400
             cases e400
             replace p400 := eq_true p400
             replace q400 := eq_true q400
             go_wp2_with (first | ((with_reducible refine gate_callee (f := 63) rfl ?_); refine goesM_ (some 28) rfl rfl Try.func63 (by kernel_rfl) rfl #[.int .i64 (rd (rd_L4 l0 x12_1) x23_2), .int .i64 (-500), .int .i64 500] rfl ?_; (with_reducible refine (spec_l01In.calls (rd (rd_L4 l0 x12_1) x23_2) (-500) 500 true _ A10.out).mono ?_); rintro e w' ⟨rfl, ⟨nd, rfl⟩⟩; refine ⟨_, rfl, ?_⟩))
             go_roundg k2
             case measure => have := HK1.out; have := HK2.out; omega
             case rel => exact ⟨(wrap64 (x23_2 + 1)), eqA, H', ⟨by have := HK1.out; have := HK2.out; omega⟩, by repeat (first | exact Drawn0.refl _ | apply Drawn0.step)⟩
            replace c11 := Bool.eq_false_iff.mpr c11
            subst c11
            have H1 : (some false) = some r := by rw [if_neg (show ¬ (false = true) by decide)] at H; exact H
            clear H
            have H := H1
            clear H1
            obtain rfl := Option.some.inj H
            have p400 : 0 ≤ (x23_2 : Int) := ofA
            have q400 : x23_2 < ((rd_L4 l0 x12_1).length : Int) := ofA
            obtain ⟨ad400, e400, hx400_0⟩ := Kd.at_int HR399_0.out x23_2 p400 q400
            cases e400
            replace p400 := eq_true p400
            replace q400 := eq_true q400
            go_wp2_with (first | ((with_reducible refine gate_callee (f := 63) rfl ?_); refine goesM_ (some 28) rfl rfl Try.func63 (by kernel_rfl) rfl #[.int .i64 (rd (rd_L4 l0 x12_1) x23_2), .int .i64 (-500), .int .i64 500] rfl ?_; (with_reducible refine (spec_l01In.calls (rd (rd_L4 l0 x12_1) x23_2) (-500) 500 false _ A10.out).mono ?_); rintro e w' ⟨rfl, ⟨nd, rfl⟩⟩; refine ⟨_, rfl, ?_⟩))
            go_ret
            exact ⟨eqA, by repeat (first | exact Drawn0.refl _ | apply Drawn0.step)⟩
           rw [if_neg c9] at H
           exact absurd H (by simp)
          rw [if_neg c8] at H
          exact absurd H (by simp)
         rw [if_neg c7] at H
         have c7b0 : decide (x23_2 < ((rd_L4 l0 x12_1).length : Int)) = false := decide_eq_false c7
         clear c7
         have H' := Aside0.mk H
         clear H
         go_wp2
         go_roundg k2
         case measure => have := HK1.out; have := HK2.out; omega
         case rel => exact ⟨(wrap64 (x12_1 + 1)), eqA, H', ⟨by have := HK1.out; have := HK2.out; omega⟩, by repeat (first | exact Drawn0.refl _ | apply Drawn0.step)⟩
      rw [if_neg c6] at H
      have c6b0 : (((rd_L4 l0 x12_1).length : Int) == (l0.length : Int)) = false := beq_eq_false_iff_ne.mpr c6
      have c6b1 : (((rd_L4 l0 x12_1).length : Int) != (l0.length : Int)) = true := bne_iff_ne.mpr c6
      have c6b2 : ((rd_L4 l0 x12_1).length == l0.length) = false := by first | simpa using c6 | (simp at c6 ⊢; omega)
      obtain rfl := Option.some.inj H
      have p399 : 0 ≤ (x12_1 : Int) := ofA
      have q399 : x12_1 < (l0.length : Int) := ofA
      obtain ⟨ad399, A399_0, c399_0, e399, hx399_0, hl399_0, hi399_0⟩ := at_L4 HR0.out x12_1 p399 q399
      cases e399
      have HR399_0 := Aside0.mk hi399_0
      have HC399_0 := Aside0.mk hl399_0
      clear hi399_0 hl399_0
      replace p399 := eq_true p399
      replace q399 := eq_true q399
      go_wp2
      go_ret
      exact ⟨eqA, by repeat (first | exact Drawn0.refl _ | apply Drawn0.step)⟩
     rw [if_neg c5] at H
     exact absurd H (by simp)
    rw [if_neg c4] at H
    exact absurd H (by simp)
   rw [if_neg c3] at H
   have c3b0 : decide (x12_1 < (l0.length : Int)) = false := decide_eq_false c3
   clear c3
   obtain rfl := Option.some.inj H
   go_wp2
   go_ret
   exact ⟨eqA, by repeat (first | exact Drawn0.refl _ | apply Drawn0.step)⟩
mutual
def spec_l03Det.l0 : Nat → List (List Int) → List Int → List Int → Int → Int → List Int → Int → Int → Option (Int)
 | 0, _, _, _, _, _, _, _, _ => none
 | k + 1, x0, x1, x2, x7, x8, x16, x17, x18 => if x18 < x17 then (if 0 ≤ x18 then (if x18 < (x16.length : Int) then (if 0 < (x1.length : Int) then (if 0 ≤ (rd x1 0) then (if (rd x1 0) < (x0.length : Int) then (if 0 ≤ (rd x16 x18) then (if (rd x16 x18) < ((rd_L4 x0 (rd x1 0)).length : Int) then (if (rd (rd_L4 x0 (rd x1 0)) (rd x16 x18)) = 0 then (spec_l03Det.l0 k x0 x1 x2 x7 (wrap64 (-x8)) x16 x17 (wrap64 (x18 + 1))) else ((some (([] : List Int) : List Int)).bind fun y406 => (if x18 ≤ (x2.length : Int) then (if y406.length + (x2.take (x18 : Int).toNat).length < 17592186044416 then ((some (y406 ++ (x2.take (x18 : Int).toNat) : List Int)).bind fun y410 => (if 0 ≤ (wrap64 (x18 + 1)) then (if (wrap64 (x18 + 1)) ≤ (x2.length : Int) then (if y410.length + (x2.drop ((wrap64 (x18 + 1)) : Int).toNat).length < 17592186044416 then (if 1 ≤ (x1.length : Int) then ((spec_l03Det.f k x0 (x1.drop 1) (y410 ++ (x2.drop ((wrap64 (x18 + 1)) : Int).toNat))).bind fun t418 => (spec_l03Det.l0 k x0 x1 x2 (wrap64 (x7 + (wrap64 ((wrap64 (x8 * (rd (rd_L4 x0 (rd x1 0)) (rd x16 x18)))) * t418)))) (wrap64 (-x8)) x16 x17 (wrap64 (x18 + 1)))) else (none)) else (none)) else (none)) else (none))) else (none)) else (none)))) else (none)) else (none)) else (none)) else (none)) else (none)) else (none)) else (none)) else (some x7)
def spec_l03Det.f : Nat → List (List Int) → List Int → List Int → Option (Int)
 | 0, _, _, _ => none
 | k + 1, l0, l1, l2 => if (l1.length : Int) = 0 then (some 1) else (spec_l03Det.l0 k l0 l1 l2 0 1 l2 (l2.length : Int) 0)
end
def spec_l03Det.T10 : Bool × List (List Nat × List Nat) := (true, [([], []), ([], []), ([], []), ([1, 2], [1, 2]), ([0, 3], [0, 3]), ([], []), ([], []), ([6], [6]), ([5, 7], [5, 7]), ([4, 8, 4], [4, 8]), ([9, 9, 0, 1, 2, 3, 4, 5, 6, 7, 8, 9], [9])])
def spec_l03Det.B10 : List Nat := [0, 0, 0, 6, 15, 0, 0, 64, 224, 511, 1023]
theorem spec_l03Det.tab10 : rtab .any (opsOf Try.f57 10) = spec_l03Det.T10 := by kernel_rfl
theorem spec_l03Det.bits10 : waitsOk spec_l03Det.T10.2 spec_l03Det.B10 = true := by kernel_rfl
set_option maxHeartbeats 8000000 in
set_option maxRecDepth 100000 in
theorem spec_l03Det.calls (k : Nat) : ∀ (A0 : Option Addr) (c0 : Nat) (l0 : List (List Int)) (A1 : Option Addr) (c1 : Nat) (l1 : List Int) (A2 : Option Addr) (c2 : Nat) (l2 : List Int) (r : Int) (w : World) (hr0 : Kd.C (Kd.slice 3 (Kd.int .i64)) w A0 l0.length l0) (hc0 : l0.length ≤ c0) (hr1 : Kd.C (Kd.int .i64) w A1 l1.length l1) (hc1 : l1.length ≤ c1) (hr2 : Kd.C (Kd.int .i64) w A2 l2.length l2) (hc2 : l2.length ≤ c2) (h : spec_l03Det.f k l0 l1 l2 = some r),
  Calls Try.prog 57 #[.slice A0 l0.length c0, .slice A1 l1.length c1, .slice A2 l2.length c2] w fun e w' => e = .returned (.int .i64 r) ∧ Below w.heap.size w w' := by
 induction k using Nat.strongRecOn with
 | _ k ih =>
 intro A0 c0 l0 A1 c1 l1 A2 c2 l2 r w hr0 hc0 hr1 hc1 hr2 hc2 h
 cases k with
 | zero => exact absurd h (by simp [spec_l03Det.f])
 | succ k =>
 simp only [spec_l03Det.f] at h
 have HR0 := Aside0.mk hr0
 have HC0 := Aside0.mk hc0
 clear hr0 hc0
 have HR1 := Aside0.mk hr1
 have HC1 := Aside0.mk hc1
 clear hr1 hc1
 have HR2 := Aside0.mk hr2
 have HC2 := Aside0.mk hc2
 clear hr2 hc2
 have HB := Aside0.mk (Below.refl w.heap.size w)
 have H : (if (l1.length : Int) = 0 then (some 1) else (spec_l03Det.l0 k l0 l1 l2 0 1 l2 (l2.length : Int) 0)) = some r := h
 clear h
 by_cases c4 : (l1.length : Int) = 0
 ·rw [if_pos c4] at H
  have c4b0 : ((l1.length : Int) == 0) = true := beq_iff_eq.mpr c4
  have c4b1 : ((l1.length : Int) != 0) = false := bne_eq_false_iff_eq.mpr c4
  clear c4
  obtain rfl := Option.some.inj H
  go_enter Try.func57, Try.ntmps57
  go_wp2
  go_ret
  exact ⟨by first | rfl | (simp [errW_none, errW_some] <;> rfl) | (simp [*, errW_none, errW_some] <;> rfl), by exact Lz HB⟩
 rw [if_neg c4] at H
 have c4b0 : ((l1.length : Int) == 0) = false := beq_eq_false_iff_ne.mpr c4
 have c4b1 : ((l1.length : Int) != 0) = true := bne_iff_ne.mpr c4
 have c4b2 : ¬ (l1 = []) := fun h_ => c4 (by rw [h_]; rfl)
 have H' := Aside0.mk H
 clear H
 go_enter Try.func57, Try.ntmps57
 go_wp2
 go_loopg [7, 8, 18] k (fun kq v7 v8 v18 w' => ∃ (x7_1 : Int) (x8_1 : Int) (x18_1 : Int), v7 = .int .i64 x7_1 ∧ v8 = .int .i64 x8_1 ∧ v18 = .int .i64 x18_1 ∧ Aside0 (spec_l03Det.l0 kq l0 l1 l2 x7_1 x8_1 l2 (l2.length : Int) x18_1 = some r) ∧ Aside0 (kq ≤ k) ∧ Aside0 (Below w.heap.size w w'))
 case atStart => exact ⟨(0), (1), (0), eqA, eqA, eqA, H', ⟨Nat.le_refl _⟩, ⟨by exact Lz HB⟩⟩
 case round =>
  clear H'
  try clear c1
  try clear c2
  try clear c4
  try clear c4b0
  try clear c4b1
  try clear c4b2
  obtain ⟨x7_1, x8_1, x18_1, rfl, rfl, rfl, HA, HK1, HB⟩ := hrel
  cases gk with
  | zero => exact absurd HA.out (by simp [spec_l03Det.l0])
  | succ k1 =>
   have H := HA.out
   clear HA
   simp only [spec_l03Det.l0] at H
   by_cases c5 : x18_1 < (l2.length : Int)
   ·rw [if_pos c5] at H
    have c5b0 : decide (x18_1 < (l2.length : Int)) = true := decide_eq_true c5
    clear c5
    by_cases c6 : 0 ≤ x18_1
    ·rw [if_pos c6] at H
     have c6b0 : decide (0 ≤ x18_1) = true := decide_eq_true c6
     clear c6
     by_cases c7 : x18_1 < (l2.length : Int)
     ·rw [if_pos c7] at H
      have c7b0 : decide (x18_1 < (l2.length : Int)) = true := decide_eq_true c7
      clear c7
      by_cases c8 : 0 < (l1.length : Int)
      ·rw [if_pos c8] at H
       have c8b0 : decide (0 < (l1.length : Int)) = true := decide_eq_true c8
       have c8b1 : decide (0 < l1.length) = true := decide_eq_true (by omega)
       clear c8
       by_cases c9 : 0 ≤ (rd l1 0)
       ·rw [if_pos c9] at H
        have c9b0 : decide (0 ≤ (rd l1 0)) = true := decide_eq_true c9
        clear c9
        by_cases c10 : (rd l1 0) < (l0.length : Int)
        ·rw [if_pos c10] at H
         have c10b0 : decide ((rd l1 0) < (l0.length : Int)) = true := decide_eq_true c10
         clear c10
         by_cases c11 : 0 ≤ (rd l2 x18_1)
         ·rw [if_pos c11] at H
          have c11b0 : decide (0 ≤ (rd l2 x18_1)) = true := decide_eq_true c11
          clear c11
          by_cases c12 : (rd l2 x18_1) < ((rd_L4 l0 (rd l1 0)).length : Int)
          ·rw [if_pos c12] at H
           have c12b0 : decide ((rd l2 x18_1) < ((rd_L4 l0 (rd l1 0)).length : Int)) = true := decide_eq_true c12
           clear c12
           by_cases c13 : (rd (rd_L4 l0 (rd l1 0)) (rd l2 x18_1)) = 0
           ·rw [if_pos c13] at H
            have c13b0 : ((rd (rd_L4 l0 (rd l1 0)) (rd l2 x18_1)) == 0) = true := beq_iff_eq.mpr c13
            have c13b1 : ((rd (rd_L4 l0 (rd l1 0)) (rd l2 x18_1)) != 0) = false := bne_eq_false_iff_eq.mpr c13
            clear c13
            have H' := Aside0.mk H
            clear H
            have p402 : 0 ≤ (x18_1 : Int) := ofA
            have q402 : x18_1 < (l2.length : Int) := ofA
            obtain ⟨ad402, e402, hx402_0⟩ := Kd.at_int HR2.out x18_1 p402 q402
            cases e402
            replace hx402_0 := (HB.out.cell (World.block_lt_of_cell? w _ hx402_0)).trans hx402_0
            replace p402 := eq_true p402
            replace q402 := eq_true q402
            have p403 : 0 ≤ (0 : Int) := (by omega)
            have q403 : 0 < (l1.length : Int) := ofA
            obtain ⟨ad403, e403, hx403_0⟩ := Kd.at_int HR1.out 0 p403 q403
            cases e403
            have qi403 : (0 < l1.length) = True := eq_true (by omega)
            (try rw [show ((0 : Int)).toNat = 0 from rfl] at hx403_0)
            (try rw [Addr.add_zero'] at hx403_0)
            replace hx403_0 := (HB.out.cell (World.block_lt_of_cell? w _ hx403_0)).trans hx403_0
            replace p403 := eq_true p403
            replace q403 := eq_true q403
            have p404 : 0 ≤ ((rd l1 0) : Int) := ofA
            have q404 : (rd l1 0) < (l0.length : Int) := ofA
            obtain ⟨ad404, A404_0, c404_0, e404, hx404_0, hl404_0, hi404_0⟩ := at_L4 HR0.out (rd l1 0) p404 q404
            cases e404
            replace hx404_0 := (HB.out.cell (World.block_lt_of_cell? w _ hx404_0)).trans hx404_0
            have HR404_0 := Aside0.mk hi404_0
            have HC404_0 := Aside0.mk hl404_0
            clear hi404_0 hl404_0
            replace p404 := eq_true p404
            replace q404 := eq_true q404
            have p405 : 0 ≤ ((rd l2 x18_1) : Int) := ofA
            have q405 : (rd l2 x18_1) < ((rd_L4 l0 (rd l1 0)).length : Int) := ofA
            obtain ⟨ad405, e405, hx405_0⟩ := Kd.at_int HR404_0.out (rd l2 x18_1) p405 q405
            cases e405
            replace hx405_0 := (HB.out.cell (World.block_lt_of_cell? w _ hx405_0)).trans hx405_0
            replace p405 := eq_true p405
            replace q405 := eq_true q405
            go_wp2
            go_roundg k1
            case measure => have := HK1.out; omega
            case rel => exact ⟨(x7_1), (wrap64 (-x8_1)), (wrap64 (x18_1 + 1)), eqA, eqA, eqA, H', ⟨by have := HK1.out; omega⟩, ⟨by exact Lz HB⟩⟩
           rw [if_neg c13] at H
           have c13b0 : ((rd (rd_L4 l0 (rd l1 0)) (rd l2 x18_1)) == 0) = false := beq_eq_false_iff_ne.mpr c13
           have c13b1 : ((rd (rd_L4 l0 (rd l1 0)) (rd l2 x18_1)) != 0) = true := bne_iff_ne.mpr c13
           obtain ⟨y406, hy406⟩ : ∃ y_ : List Int, y_ = (([] : List Int)) := ⟨_, rfl⟩
           replace H : (if x18_1 ≤ (l2.length : Int) then (if y406.length + (l2.take (x18_1 : Int).toNat).length < 17592186044416 then ((some (y406 ++ (l2.take (x18_1 : Int).toNat) : List Int)).bind fun y410 => (if 0 ≤ (wrap64 (x18_1 + 1)) then (if (wrap64 (x18_1 + 1)) ≤ (l2.length : Int) then (if y410.length + (l2.drop ((wrap64 (x18_1 + 1)) : Int).toNat).length < 17592186044416 then (if 1 ≤ (l1.length : Int) then ((spec_l03Det.f k1 l0 (l1.drop 1) (y410 ++ (l2.drop ((wrap64 (x18_1 + 1)) : Int).toNat))).bind fun t418 => (spec_l03Det.l0 k1 l0 l1 l2 (wrap64 (x7_1 + (wrap64 ((wrap64 (x8_1 * (rd (rd_L4 l0 (rd l1 0)) (rd l2 x18_1)))) * t418)))) (wrap64 (-x8_1)) l2 (l2.length : Int) (wrap64 (x18_1 + 1)))) else (none)) else (none)) else (none)) else (none))) else (none)) else (none)) = some r := by first | (rw [hy406]; with_reducible exact H) | (have H2_ := (Option.bind_some _ _).symm.trans H; rw [hy406]; with_reducible exact H2_) | (have H2_ := (Option.bind_some _ _).symm.trans H; with_reducible exact H2_) | with_reducible exact H | (rw [hy406]; exact H) | exact H
           have Ny406 := Aside0.mk hy406
           clear hy406
           have c14b0 := eq_true (ofA : 0 ≤ x18_1)
           by_cases c15 : x18_1 ≤ (l2.length : Int)
           ·rw [if_pos c15] at H
            have c15b0 := eq_true c15
            have c15b1 : decide (x18_1 ≤ (l2.length : Int)) = true := decide_eq_true c15
            clear c15
            by_cases c16 : y406.length + (l2.take (x18_1 : Int).toNat).length < 17592186044416
            ·rw [if_pos c16] at H
             have LMc16 := Aside0.mk c16
             clear c16
             obtain ⟨y410, hy410⟩ : ∃ y_ : List Int, y_ = (y406 ++ (l2.take (x18_1 : Int).toNat)) := ⟨_, rfl⟩
             replace H : (if 0 ≤ (wrap64 (x18_1 + 1)) then (if (wrap64 (x18_1 + 1)) ≤ (l2.length : Int) then (if y410.length + (l2.drop ((wrap64 (x18_1 + 1)) : Int).toNat).length < 17592186044416 then (if 1 ≤ (l1.length : Int) then ((spec_l03Det.f k1 l0 (l1.drop 1) (y410 ++ (l2.drop ((wrap64 (x18_1 + 1)) : Int).toNat))).bind fun t418 => (spec_l03Det.l0 k1 l0 l1 l2 (wrap64 (x7_1 + (wrap64 ((wrap64 (x8_1 * (rd (rd_L4 l0 (rd l1 0)) (rd l2 x18_1)))) * t418)))) (wrap64 (-x8_1)) l2 (l2.length : Int) (wrap64 (x18_1 + 1)))) else (none)) else (none)) else (none)) else (none)) = some r := by first | (rw [hy410]; with_reducible exact H) | (have H2_ := (Option.bind_some _ _).symm.trans H; rw [hy410]; with_reducible exact H2_) | (have H2_ := (Option.bind_some _ _).symm.trans H; with_reducible exact H2_) | with_reducible exact H | (rw [hy410]; exact H) | exact H
             have Ny410 := Aside0.mk hy410
             clear hy410
             obtain ⟨ji17, hji17⟩ : ∃ j_ : Int, (wrap64 (x18_1 + 1)) = j_ := ⟨_, rfl⟩
             replace H : (if 0 ≤ (ji17) then (if (ji17) ≤ (l2.length : Int) then (if y410.length + (l2.drop ((ji17) : Int).toNat).length < 17592186044416 then (if 1 ≤ (l1.length : Int) then ((spec_l03Det.f k1 l0 (l1.drop 1) (y410 ++ (l2.drop ((ji17) : Int).toNat))).bind fun t418 => (spec_l03Det.l0 k1 l0 l1 l2 (wrap64 (x7_1 + (wrap64 ((wrap64 (x8_1 * (rd (rd_L4 l0 (rd l1 0)) (rd l2 x18_1)))) * t418)))) (wrap64 (-x8_1)) l2 (l2.length : Int) ji17)) else (none)) else (none)) else (none)) else (none)) = some r := by first | (rw [hji17] at H; exact H) | (simp only [hji17] at H ⊢; exact H)
             have hji17w : (IntKind.i64.wrap (x18_1 + 1)) = ji17 := (i64_w _).trans hji17
             by_cases c18 : 0 ≤ (ji17)
             ·rw [if_pos c18] at H
              have c18b0 := eq_true c18
              have c18b1 : decide (0 ≤ (ji17)) = true := decide_eq_true c18
              clear c18
              by_cases c19 : (ji17) ≤ (l2.length : Int)
              ·rw [if_pos c19] at H
               have c19b0 := eq_true c19
               have c19b1 : decide ((ji17) ≤ (l2.length : Int)) = true := decide_eq_true c19
               clear c19
               by_cases c20 : y410.length + (l2.drop ((ji17) : Int).toNat).length < 17592186044416
               ·rw [if_pos c20] at H
                have LMc20 := Aside0.mk c20
                clear c20
                obtain ⟨y414, hy414⟩ : ∃ y_ : List Int, y_ = (y410 ++ (l2.drop ((ji17) : Int).toNat)) := ⟨_, rfl⟩
                replace H : (if 1 ≤ (l1.length : Int) then ((spec_l03Det.f k1 l0 (l1.drop 1) y414).bind fun t418 => (spec_l03Det.l0 k1 l0 l1 l2 (wrap64 (x7_1 + (wrap64 ((wrap64 (x8_1 * (rd (rd_L4 l0 (rd l1 0)) (rd l2 x18_1)))) * t418)))) (wrap64 (-x8_1)) l2 (l2.length : Int) ji17)) else (none)) = some r := by first | (rw [hy414]; with_reducible exact H) | (have H2_ := (Option.bind_some _ _).symm.trans H; rw [hy414]; with_reducible exact H2_) | (have H2_ := (Option.bind_some _ _).symm.trans H; with_reducible exact H2_) | with_reducible exact H | (rw [hy414]; exact H) | exact H
                have Ny414 := Aside0.mk hy414
                clear hy414
                by_cases c21 : 1 ≤ (l1.length : Int)
                ·rw [if_pos c21] at H
                 have c21b0 := eq_true c21
                 have c21b1 : decide (1 ≤ (l1.length : Int)) = true := decide_eq_true c21
                 clear c21
                 replace H := Option.bind_eq_some_iff.mp H
                 obtain ⟨t418, A220, H⟩ := H
                 replace H : (spec_l03Det.l0 k1 l0 l1 l2 (wrap64 (x7_1 + (wrap64 ((wrap64 (x8_1 * (rd (rd_L4 l0 (rd l1 0)) (rd l2 x18_1)))) * t418)))) (wrap64 (-x8_1)) l2 (l2.length : Int) ji17) = some r := H
                 have A22 := Aside0.mk A220
                 clear A220
                 have H' := Aside0.mk H
                 clear H
                 have p402 : 0 ≤ (x18_1 : Int) := ofA
                 have q402 : x18_1 < (l2.length : Int) := ofA
                 obtain ⟨ad402, e402, hx402_0⟩ := Kd.at_int HR2.out x18_1 p402 q402
                 cases e402
                 replace hx402_0 := (HB.out.cell (World.block_lt_of_cell? w _ hx402_0)).trans hx402_0
                 replace p402 := eq_true p402
                 replace q402 := eq_true q402
                 have p403 : 0 ≤ (0 : Int) := (by omega)
                 have q403 : 0 < (l1.length : Int) := ofA
                 obtain ⟨ad403, e403, hx403_0⟩ := Kd.at_int HR1.out 0 p403 q403
                 cases e403
                 have qi403 : (0 < l1.length) = True := eq_true (by omega)
                 (try rw [show ((0 : Int)).toNat = 0 from rfl] at hx403_0)
                 (try rw [Addr.add_zero'] at hx403_0)
                 replace hx403_0 := (HB.out.cell (World.block_lt_of_cell? w _ hx403_0)).trans hx403_0
                 replace p403 := eq_true p403
                 replace q403 := eq_true q403
                 have p404 : 0 ≤ ((rd l1 0) : Int) := ofA
                 have q404 : (rd l1 0) < (l0.length : Int) := ofA
                 obtain ⟨ad404, A404_0, c404_0, e404, hx404_0, hl404_0, hi404_0⟩ := at_L4 HR0.out (rd l1 0) p404 q404
                 cases e404
                 replace hx404_0 := (HB.out.cell (World.block_lt_of_cell? w _ hx404_0)).trans hx404_0
                 have HR404_0 := Aside0.mk hi404_0
                 have HC404_0 := Aside0.mk hl404_0
                 clear hi404_0 hl404_0
                 replace p404 := eq_true p404
                 replace q404 := eq_true q404
                 have p405 : 0 ≤ ((rd l2 x18_1) : Int) := ofA
                 have q405 : (rd l2 x18_1) < ((rd_L4 l0 (rd l1 0)).length : Int) := ofA
                 obtain ⟨ad405, e405, hx405_0⟩ := Kd.at_int HR404_0.out (rd l2 x18_1) p405 q405
                 cases e405
                 replace hx405_0 := (HB.out.cell (World.block_lt_of_cell? w _ hx405_0)).trans hx405_0
                 replace p405 := eq_true p405
                 replace q405 := eq_true q405
                 try go_wp2
                 replace HB := Aside0.mk (below_drew1 HB.out)
                 obtain ⟨i024, hi024, _, hsz24, _⟩ := info_parts info3
                 obtain ⟨hcut24, hA24, hC24⟩ := print_take_of (P := Try.prog) (Value.int .i64) 0 37 3 .i64 Try.underlying37 hi024 hsz24 (some ad402) c2 l2 x18_1 (ofA) (ofA) HC2.out
                 have HR409 := Aside0.mk (Kd.C_of_reads (h1 := fun _ => rfl) (hA24 _ (Kd.reads_of_C HR2.out)))
                 have HC409 := Aside0.mk hC24
                 clear hA24 hC24 hi024 hsz24
                 obtain ⟨i025, hi025, _, hsz25, _⟩ := info_parts info3
                 obtain ⟨A25, hcut25, hA25, hC25⟩ := print_drop_of (P := Try.prog) (Value.int .i64) 0 37 3 .i64 Try.underlying37 hi025 hsz25 (some ad402) c2 l2 (ji17) (ofA) (ofA) HC2.out
                 have HR413 := Aside0.mk (Kd.C_of_reads (h1 := fun _ => rfl) (hA25 _ (Kd.reads_of_C HR2.out)))
                 have HC413 := Aside0.mk hC25
                 clear hA25 hC25 hi025 hsz25
                 refine start_ (n := 11) (S := fun w' => True) (ds := []) #[false, false, false, false, false, false, false, false, false, false, false] (by kernel_rfl) rfl rfl trivial (fun hHeld => ?_); refine with_tabW spec_l03Det.tab10 spec_l03Det.bits10 (fun HT_ HW_ => ?_)
                 generalize wr.drew = w23 at HB HR409 HR413 hHeld ⊢
                 refine pureT_ 1 35 HT_ ?_
                 refine pureT_ 2 36 HT_ ?_
                 refine pureT_ 3 37 HT_ ?_
                 refine pureT_ 5 39 HT_ ?_
                 refine pureT_ 6 40 HT_ ?_
                 refine pureT_ 7 41 HT_ ?_
                 refine pureT_ 8 42 HT_ ?_
                 refine one_ (i := 0) (N := some 34) #[true, true, true, true, false, true, true, true, true, false, false] rfl rfl (one_of HT_.out (by kernel_rfl)) (by decide) (fun K hK => ?_)
                 refine Kd.R_lit_step (Kd.int .i64) _ 3 ?hg (N := 34) ?hd (xs := ([] : List Int)) (inner := []) (ok := fun _ => True) (okp := fun _ => True) ?hr ?hp (fun _ hk => hk) trivial (Below.refl _ _) (Nat.le_refl _) (by simp) ?_; (case hd => rfl); (case hg => rfl); (case hr => first | (go_simp; done) | (go_simp; rfl)); (case hp => exact (Reps.none _ _))
                 intro v407 w26 ho27 hb hg_ hnew_
                 clear hg_ hnew_
                 (first | rw [← Ny406.out] at ho27 | (simp only [Int.reduceToNat] at ho27; rw [← Ny406.out] at ho27))
                 have HO408 := Aside0.mk (Kd.R_lower ho27 (below_size (Lz HB)))
                 replace HB := Aside0.mk (below_step (Lz HB) hb)
                 clear hb ho27
                 refine hK.out _ _ trivial (fun hHeld => ?_)
                 clear hK K
                 refine norm_ (a' := ?_) ?_ ?_
                 rotate_left
                 ·show Act.put _ (some 34) _ = _
                  simp only [Act.put, List.setIfInBounds_toArray, List.set_cons_zero, List.set_cons_succ, i64_w, i32_w]
                  rfl
                 refine one_ (i := 4) (N := some 38) #[true, true, true, true, true, true, true, true, true, false, false] rfl rfl (one_of HT_.out (by kernel_rfl)) (by decide) (fun K hK => ?_)
                 refine Kd.R_append_rows_step (Kd.int .i64) (w0 := w) w.heap.size (by rfl) (.tmp 34) (.tmp 37) 37 3 (.int .i64 0) 8 rfl Try.underlying37 info3 rfl (by decide) (by omega) v407 y406 (l2.take (x18_1 : Int).toNat) _ _ _ (fun _ => True) (fun _ => False) rfl rfl ?aO ?aR (fun _ _ h => h) (fun _ h => h.elim) ?aF ?aB ?aS ?aL ?_
                 (case aR => first | (refine Eq.mp (congrArg (fun n_ => ReadsRow _ _ _ _ n_ _) (show (l2.take (x18_1 : Int).toNat).length = x18_1.toNat from (by rw [List.length_take]; have h_ : (x18_1 : Int) ≤ (l2.length : Int) := ofA; omega))) ?_; (exact Cz ((Kd.C_below HR409.out HB.out))); done) | (rw [← show (l2.take (x18_1 : Int).toNat).length = x18_1.toNat from (by rw [List.length_take]; have h_ : (x18_1 : Int) ≤ (l2.length : Int) := ofA; omega)]; exact Cz ((Kd.C_below HR409.out HB.out))) | (exact Cz ((Kd.C_below HR409.out HB.out))))
                 (case aB => exact (Lz HB))
                 (case aF => exact (fun _ _ => trivial))
                 (case aO => exact (Rz HO408))
                 (case aS => exact (below_size (Lz HB)))
                 (case aL => have := LMc16.out; have hlx_ := (show (l2.take (x18_1 : Int).toNat).length = x18_1.toNat from (by rw [List.length_take]; have h_ : (x18_1 : Int) ≤ (l2.length : Int) := ofA; omega)); omega)
                 intro v411 w28 ho hb hg hat
                 rw [← Ny410.out] at ho
                 replace HB := Aside0.mk (hb)
                 have HO412 := Aside0.mk (ho)
                 clear HO408
                 clear ho hb hg hat
                 refine hK.out _ _ trivial (fun hHeld => ?_)
                 clear hK K
                 refine norm_ (a' := ?_) ?_ ?_
                 rotate_left
                 ·show Act.put _ (some 38) _ = _
                  simp only [Act.put, List.setIfInBounds_toArray, List.set_cons_zero, List.set_cons_succ, i64_w, i32_w]
                  rfl
                 refine one_ (i := 9) (N := some 43) #[true, true, true, true, true, true, true, true, true, true, false] rfl rfl (one_of HT_.out (by kernel_rfl)) (by decide) (fun K hK => ?_)
                 refine Kd.R_append_rows_step (Kd.int .i64) (w0 := w) w.heap.size (by rfl) (.tmp 38) (.tmp 42) 37 3 (.int .i64 0) 8 rfl Try.underlying37 info3 rfl (by decide) (by omega) v411 y410 (l2.drop ((ji17) : Int).toNat) _ _ _ (fun _ => True) (fun _ => False) rfl rfl ?aO ?aR (fun _ _ h => h) (fun _ h => h.elim) ?aF ?aB ?aS ?aL ?_
                 (case aR => first | (refine Eq.mp (congrArg (fun n_ => ReadsRow _ _ _ _ n_ _) (show (l2.drop ((ji17) : Int).toNat).length = (l2.length - (ji17).toNat) from List.length_drop)) ?_; (exact Cz ((Kd.C_below HR413.out HB.out))); done) | (rw [← show (l2.drop ((ji17) : Int).toNat).length = (l2.length - (ji17).toNat) from List.length_drop]; exact Cz ((Kd.C_below HR413.out HB.out))) | (exact Cz ((Kd.C_below HR413.out HB.out))))
                 (case aB => exact (Lz HB))
                 (case aF => exact (fun _ _ => trivial))
                 (case aO => exact (Rz HO412))
                 (case aS => exact (below_size (Lz HB)))
                 (case aL => have := LMc20.out; have hlx_ := (show (l2.drop ((ji17) : Int).toNat).length = (l2.length - (ji17).toNat) from List.length_drop); omega)
                 intro v415 w29 ho hb hg hat
                 rw [← Ny414.out] at ho
                 replace HB := Aside0.mk (hb)
                 have HO416 := Aside0.mk (ho)
                 clear HO412
                 clear ho hb hg hat
                 refine hK.out _ _ trivial (fun hHeld => ?_)
                 clear hK K
                 refine norm_ (a' := ?_) ?_ ?_
                 rotate_left
                 ·show Act.put _ (some 43) _ = _
                  simp only [Act.put, List.setIfInBounds_toArray, List.set_cons_zero, List.set_cons_succ, i64_w, i32_w]
                  rfl
                 refine pureT_ 10 12 HT_ ?_
                 refine done_ (done_of HT_.out (by kernel_rfl)) ?_
                 obtain ⟨i030, hi030, _, hsz30, _⟩ := info_parts info3
                 obtain ⟨A30, hcut30, hA30, hC30⟩ := print_drop_of (P := Try.prog) (Value.int .i64) 0 37 3 .i64 Try.underlying37 hi030 hsz30 (some ad403) c1 l1 1 (by omega) (ofA) HC1.out
                 have HR417 := Aside0.mk (Kd.C_of_reads (h1 := fun _ => rfl) (hA30 _ (Kd.reads_of_C HR1.out)))
                 have HC417 := Aside0.mk hC30
                 clear hA30 hC30 hi030 hsz30
                 obtain ⟨Ao31, co31, eo31⟩ := Kd.R_slice HO416.out
                 subst eo31
                 try go_wp2_with (first | ((with_reducible refine gate_callee (f := 57) rfl ?_); refine goesL_ (some 52) rfl rfl Try.func57 (by kernel_rfl) rfl #[.slice (some ad404) l0.length c0, .slice A30 (l1.drop 1).length (c1 - 1), .slice Ao31 y414.length co31] rfl (by (try simp only [List.map_toArray, List.map_cons, List.map_nil]); first | done | (rw [show (l1.drop 1).length = (l1.length - 1) from List.length_drop] <;> rfl) | rfl | (simp only [List.length_drop, List.length_take]; rfl)) ?_; (with_reducible refine (ih k1 (by have := HK1.out; omega) _ _ l0 _ _ (l1.drop 1) _ _ y414 t418 _ ?side1 ?side2 ?side3 ?side4 ?side5 ?side6 A22.out).mono ?_); (case side1 => exact Cz ((Kd.C_below HR0.out HB.out))); (case side2 => exact HC0.out); (case side3 => exact Cz ((Kd.C_below HR417.out HB.out))); (case side4 => exact HC417.out); (case side5 => exact Cz ((Kd.R_reads' HO416.out).2.2)); (case side6 => exact (Kd.R_reads' HO416.out).2.1); rintro e w32 ⟨rfl, hb⟩; refine ⟨_, rfl, ?_⟩; replace HO416 := Aside0.mk (Kd.R_below (Rz HO416) hb); replace HB := Aside0.mk (below_step (Lz HB) hb); (try clear hb); (try clear hb2); (try clear hk); (try clear hi)))
                 go_roundg k1
                 case measure => have := HK1.out; omega
                 case rel => exact ⟨(wrap64 (x7_1 + (wrap64 ((wrap64 (x8_1 * (rd (rd_L4 l0 (rd l1 0)) (rd l2 x18_1)))) * t418)))), (wrap64 (-x8_1)), (ji17), eqA, eqA, (by first | rfl | (simp; done) | (simp only [← hji17] <;> (first | rfl | simp)) | (simp [*]; done)), H', ⟨by have := HK1.out; omega⟩, ⟨by exact Lz HB⟩⟩
                rw [if_neg c21] at H
                exact absurd H (by simp)
               rw [if_neg c20] at H
               exact absurd H (by simp)
              rw [if_neg c19] at H
              exact absurd H (by simp)
             rw [if_neg c18] at H
             exact absurd H (by simp)
            rw [if_neg c16] at H
            exact absurd H (by simp)
           rw [if_neg c15] at H
           exact absurd H (by simp)
          rw [if_neg c12] at H
          exact absurd H (by simp)
         rw [if_neg c11] at H
         exact absurd H (by simp)
        rw [if_neg c10] at H
        exact absurd H (by simp)
       rw [if_neg c9] at H
       exact absurd H (by simp)
      rw [if_neg c8] at H
      exact absurd H (by simp)
     rw [if_neg c7] at H
     exact absurd H (by simp)
    rw [if_neg c6] at H
    exact absurd H (by simp)
   rw [if_neg c5] at H
   have c5b0 : decide (x18_1 < (l2.length : Int)) = false := decide_eq_false c5
   clear c5
   obtain rfl := Option.some.inj H
   go_wp2
   go_ret
   exact ⟨by first | rfl | (simp [errW_none, errW_some] <;> rfl) | (simp [*, errW_none, errW_some] <;> rfl), by exact Lz HB⟩
def spec_l03All.l0 : Nat → Int → List Int → Int → Option (List Int)
 | 0, _, _, _ => none
 | k + 1, x0, x3, x4 => if x4 < x0 then (if x3.length < 17592186044416 then (spec_l03All.l0 k x0 (x3 ++ [x4]) (wrap64 (x4 + 1))) else (none)) else (some x3)
def spec_l03All.f (k : Nat) (a0 : Int) : Option (List Int) := spec_l03All.l0 k a0 (([] : List Int)) 0
set_option maxHeartbeats 8000000 in
set_option maxRecDepth 100000 in
theorem spec_l03All.calls (k : Nat) (a0 : Int) (r : List Int) (w : World) (h : spec_l03All.f k a0 = some r) :
  Calls Try.prog 87 #[.int .i64 a0] w fun e w' => ∃ v0_ : Value, e = .returned (v0_) ∧ Kd.R (Kd.int .i64) 3 w' w.heap.size (fun _ => True) v0_ r ∧ Below w.heap.size w w' := by
 have HB := Aside0.mk (Below.refl w.heap.size w)
 have H : (spec_l03All.l0 k a0 (([] : List Int)) 0) = some r := h
 clear h
 obtain ⟨y419, hy419⟩ : ∃ y_ : List Int, y_ = (([] : List Int)) := ⟨_, rfl⟩
 replace H : (spec_l03All.l0 k a0 y419 0) = some r := by first | (rw [hy419]; with_reducible exact H) | (have H2_ := (Option.bind_some _ _).symm.trans H; rw [hy419]; with_reducible exact H2_) | (have H2_ := (Option.bind_some _ _).symm.trans H; with_reducible exact H2_) | with_reducible exact H | (rw [hy419]; exact H) | exact H
 have Ny419 := Aside0.mk hy419
 clear hy419
 have H' := Aside0.mk H
 clear H
 go_enter Try.func87, Try.ntmps87
 go_wp2_with (first | ((with_reducible refine gate_dst (N := 5) rfl ?_); refine Kd.R_lit (Kd.int .i64) _ 3 ?hg (N := 5) ?hd (xs := ([] : List Int)) (inner := []) (ok := fun _ => True) (okp := fun _ => True) ?hr ?hp (fun _ hk => hk) trivial (Below.refl _ _) (Nat.le_refl _) (by simp) ?_; (case hd => rfl); (case hg => rfl); (case hr => first | (go_simp; done) | (go_simp; rfl)); (case hp => exact (Reps.none _ _)); intro v420 w2 ho3 hb hg_ hnew_; clear hg_ hnew_; (first | rw [← Ny419.out] at ho3 | (simp only [Int.reduceToNat] at ho3; rw [← Ny419.out] at ho3)); have HO421 := Aside0.mk (Kd.R_lower ho3 (below_size (Lz HB))); replace HB := Aside0.mk (below_step (Lz HB) hb); clear hb ho3))
 go_loopg [3, 4] k (fun kq v3 v4 w' => ∃ (x3_1 : List Int) (x4_1 : Int), v4 = .int .i64 x4_1 ∧ Aside0 (spec_l03All.l0 kq a0 x3_1 x4_1 = some r) ∧ Aside0 (kq ≤ k) ∧ Aside0 (Kd.R (Kd.int .i64) 3 w' w.heap.size (fun _ => True) v3 x3_1) ∧ Aside0 (Below w.heap.size w w'))
 case atStart => exact ⟨(y419), (0), eqA, H', ⟨Nat.le_refl _⟩, ⟨by exact Rz HO421⟩, ⟨by exact Lz HB⟩⟩
 case round =>
  clear H'
  obtain ⟨x3_1, x4_1, rfl, HA, HK1, HO_3, HB⟩ := hrel
  cases gk with
  | zero => exact absurd HA.out (by simp [spec_l03All.l0])
  | succ k1 =>
   have H := HA.out
   clear HA
   simp only [spec_l03All.l0] at H
   by_cases c4 : x4_1 < a0
   ·rw [if_pos c4] at H
    have c4b0 : decide (x4_1 < a0) = true := decide_eq_true c4
    clear c4
    by_cases c5 : x3_1.length < 17592186044416
    ·rw [if_pos c5] at H
     have LMc5 := Aside0.mk c5
     clear c5
     obtain ⟨y422, hy422⟩ : ∃ y_ : List Int, y_ = (x3_1 ++ [x4_1]) := ⟨_, rfl⟩
     replace H : (spec_l03All.l0 k1 a0 y422 (wrap64 (x4_1 + 1))) = some r := by first | (rw [hy422]; with_reducible exact H) | (have H2_ := (Option.bind_some _ _).symm.trans H; rw [hy422]; with_reducible exact H2_) | (have H2_ := (Option.bind_some _ _).symm.trans H; with_reducible exact H2_) | with_reducible exact H | (rw [hy422]; exact H) | exact H
     have Ny422 := Aside0.mk hy422
     clear hy422
     have H' := Aside0.mk H
     clear H
     go_wp2_with (first | ((with_reducible refine gate_builtin (b := .append) (xs := #[.tmp 11, .tmp 13]) rfl ?_); at_builtin; refine Kd.R_append (Kd.int .i64) (w0 := w) w.heap.size rfl (.tmp 11) (.tmp 13) 37 3 (.int .i64 0) 8 rfl Try.underlying37 info3 rfl (by decide) (by omega) u3 x3_1 x4_1 [.int .i64 x4_1] (fun _ => True) (fun _ => False) rfl rfl ?aP (fun _ hk => hk.elim) ?aF ?aO ?aB ?aS ?aL ?_; (case aP => exact rfl); (case aB => exact (Lz HB)); (case aF => exact (fun _ _ => trivial)); (case aO => exact (Rz HO_3)); (case aS => exact (below_size (Lz HB))); (case aL => have := LMc5.out; omega); intro v423 w6 ho hb hg hat; rw [← Ny422.out] at ho; replace HB := Aside0.mk (hb); have HO424 := Aside0.mk (ho); clear HO_3; clear ho hb hg hat))
     go_roundg k1
     case measure => have := HK1.out; omega
     case rel => exact ⟨(y422), (wrap64 (x4_1 + 1)), eqA, H', ⟨by have := HK1.out; omega⟩, ⟨by exact Rz HO424⟩, ⟨by exact Lz HB⟩⟩
    rw [if_neg c5] at H
    exact absurd H (by simp)
   rw [if_neg c4] at H
   have c4b0 : decide (x4_1 < a0) = false := decide_eq_false c4
   clear c4
   obtain rfl := Option.some.inj H
   go_wp2
   go_ret
   exact ⟨_, by first | rfl | (simp [errW_none, errW_some] <;> rfl) | (simp [*, errW_none, errW_some] <;> rfl), by exact Rz HO_3, by exact Lz HB⟩
def spec_Determinant.f (k : Nat) (l0 : List (List Int)) : Option (Int) := (spec_MatrixOk.f k l0).bind fun t425 => (if t425 = true then ((spec_l03All.f k (l0.length : Int)).bind fun t426 => ((spec_l03All.f k (l0.length : Int)).bind fun t429 => ((spec_l03Det.f k l0 t426 t429).bind fun t432 => (some t432)))) else (some 0))
set_option maxHeartbeats 8000000 in
set_option maxRecDepth 100000 in
theorem spec_Determinant.calls (k : Nat) (A0 : Option Addr) (c0 : Nat) (l0 : List (List Int)) (r : Int) (w : World) (hr0 : Kd.C (Kd.slice 3 (Kd.int .i64)) w A0 l0.length l0) (hc0 : l0.length ≤ c0) (h : spec_Determinant.f k l0 = some r) :
  Calls Try.prog 66 #[.slice A0 l0.length c0] w fun e w' => e = .returned (.int .i64 r) ∧ Below w.heap.size w w' := by
 have HR0 := Aside0.mk hr0
 have HC0 := Aside0.mk hc0
 clear hr0 hc0
 have HB := Aside0.mk (Below.refl w.heap.size w)
 have H : ((spec_MatrixOk.f k l0).bind fun t425 => (if t425 = true then ((spec_l03All.f k (l0.length : Int)).bind fun t426 => ((spec_l03All.f k (l0.length : Int)).bind fun t429 => ((spec_l03Det.f k l0 t426 t429).bind fun t432 => (some t432)))) else (some 0))) = some r := h
 clear h
 replace H := Option.bind_eq_some_iff.mp H
 obtain ⟨t425, A20, H⟩ := H
 replace H : (if t425 = true then ((spec_l03All.f k (l0.length : Int)).bind fun t426 => ((spec_l03All.f k (l0.length : Int)).bind fun t429 => ((spec_l03Det.f k l0 t426 t429).bind fun t432 => (some t432)))) else (some 0)) = some r := H
 have A2 := Aside0.mk A20
 clear A20
 by_cases c3 : t425 = true
 ·subst c3
  have H1 : ((spec_l03All.f k (l0.length : Int)).bind fun t426 => ((spec_l03All.f k (l0.length : Int)).bind fun t429 => ((spec_l03Det.f k l0 t426 t429).bind fun t432 => (some t432)))) = some r := by rw [if_pos rfl] at H; exact H
  clear H
  have H := H1
  clear H1
  replace H := Option.bind_eq_some_iff.mp H
  obtain ⟨t426, A40, H⟩ := H
  replace H : ((spec_l03All.f k (l0.length : Int)).bind fun t429 => ((spec_l03Det.f k l0 t426 t429).bind fun t432 => (some t432))) = some r := H
  have A4 := Aside0.mk A40
  clear A40
  replace H := Option.bind_eq_some_iff.mp H
  obtain ⟨t429, A50, H⟩ := H
  replace H : ((spec_l03Det.f k l0 t426 t429).bind fun t432 => (some t432)) = some r := H
  have A5 := Aside0.mk A50
  clear A50
  replace H := Option.bind_eq_some_iff.mp H
  obtain ⟨t432, A60, H⟩ := H
  replace H : (some t432) = some r := H
  have A6 := Aside0.mk A60
  clear A60
  obtain rfl := Option.some.inj H
  go_enter Try.func66, Try.ntmps66
  go_wp2_with (first | ((with_reducible refine gate_callee (f := 54) rfl ?_); refine goesM_ (some 4) rfl rfl Try.func54 (by kernel_rfl) rfl #[.slice A0 l0.length c0] rfl ?_; (with_reducible refine (spec_MatrixOk.calls k _ _ l0 true _ ?side1 ?side2 A2.out).mono ?_); (case side1 => exact Cz (HR0.out)); (case side2 => exact HC0.out); rintro e w' ⟨rfl, ⟨nd, rfl⟩⟩; refine ⟨_, rfl, ?_⟩) | ((with_reducible refine gate_callee (f := 87) rfl ?_); refine goesM_ (some 9) rfl rfl Try.func87 (by kernel_rfl) rfl #[.int .i64 (l0.length : Int)] rfl ?_; (with_reducible refine (spec_l03All.calls k (l0.length : Int) t426 _ A4.out).mono ?_); rintro e w7 ⟨v427, rfl, ho0, hb⟩; refine ⟨_, rfl, ?_⟩; have HO428 := Aside0.mk (Kd.R_lower ho0 (below_size (Lz HB))); replace HB := Aside0.mk (below_step (Lz HB) hb); (try clear hb); (try clear ho0)) | ((with_reducible refine gate_callee (f := 87) rfl ?_); refine goesM_ (some 12) rfl rfl Try.func87 (by kernel_rfl) rfl #[.int .i64 (l0.length : Int)] rfl ?_; (with_reducible refine (spec_l03All.calls k (l0.length : Int) t429 _ A5.out).mono ?_); rintro e w8 ⟨v430, rfl, ho0, hb⟩; refine ⟨_, rfl, ?_⟩; have HO431 := Aside0.mk (Kd.R_lower (Kd.R_new' ho0 (Kd.R_lt (Rz HO428))) (below_size (Lz HB))); replace HO428 := Aside0.mk (Kd.R_elder' (Rz HO428) (Kd.R_base ho0) hb); replace HB := Aside0.mk (below_step (Lz HB) hb); (try clear hb); (try clear ho0); obtain ⟨Ao9, co9, eo9⟩ := Kd.R_slice HO428.out; subst eo9; obtain ⟨Ao10, co10, eo10⟩ := Kd.R_slice HO431.out; subst eo10) | ((with_reducible refine gate_callee (f := 57) rfl ?_); refine goesM_ (some 13) rfl rfl Try.func57 (by kernel_rfl) rfl #[.slice A0 l0.length c0, .slice Ao9 t426.length co9, .slice Ao10 t429.length co10] rfl ?_; (with_reducible refine (spec_l03Det.calls k _ _ l0 _ _ t426 _ _ t429 t432 _ ?side1 ?side2 ?side3 ?side4 ?side5 ?side6 A6.out).mono ?_); (case side1 => exact Cz ((Kd.C_below HR0.out HB.out))); (case side2 => exact HC0.out); (case side3 => exact Cz ((Kd.R_reads' HO428.out).2.2)); (case side4 => exact (Kd.R_reads' HO428.out).2.1); (case side5 => exact Cz ((Kd.R_reads' HO431.out).2.2)); (case side6 => exact (Kd.R_reads' HO431.out).2.1); rintro e w11 ⟨rfl, hb⟩; refine ⟨_, rfl, ?_⟩; replace HO428 := Aside0.mk (Kd.R_below (Rz HO428) hb); replace HO431 := Aside0.mk (Kd.R_below (Rz HO431) hb); replace HB := Aside0.mk (below_step (Lz HB) hb); (try clear hb); (try clear hb2); (try clear hk); (try clear hi)))
  go_ret
  exact ⟨by first | rfl | (simp [errW_none, errW_some] <;> rfl) | (simp [*, errW_none, errW_some] <;> rfl), by exact Lz HB⟩
 replace c3 := Bool.eq_false_iff.mpr c3
 subst c3
 have H1 : (some 0) = some r := by rw [if_neg (show ¬ (false = true) by decide)] at H; exact H
 clear H
 have H := H1
 clear H1
 obtain rfl := Option.some.inj H
 go_enter Try.func66, Try.ntmps66
 go_wp2_with (first | ((with_reducible refine gate_callee (f := 54) rfl ?_); refine goesM_ (some 4) rfl rfl Try.func54 (by kernel_rfl) rfl #[.slice A0 l0.length c0] rfl ?_; (with_reducible refine (spec_MatrixOk.calls k _ _ l0 false _ ?side1 ?side2 A2.out).mono ?_); (case side1 => exact Cz (HR0.out)); (case side2 => exact HC0.out); rintro e w' ⟨rfl, ⟨nd, rfl⟩⟩; refine ⟨_, rfl, ?_⟩))
 go_ret
 exact ⟨by first | rfl | (simp [errW_none, errW_some] <;> rfl) | (simp [*, errW_none, errW_some] <;> rfl), by exact Lz HB⟩
def spec_CountTrees.f (k : Nat) (a0_0 : Int) (l0_1 : List (S57)) : Option (Int) := (spec_GraphOk.f k a0_0 l0_1).bind fun t434 => (if t434 = true then ((spec_ReducedLaplacian.f k a0_0 l0_1 0).bind fun t435 => ((spec_Determinant.f k t435).bind fun t438 => (some t438))) else (some 0))
set_option maxHeartbeats 8000000 in
set_option maxRecDepth 100000 in
theorem spec_CountTrees.calls (k : Nat) (a0_0 : Int) (A0_1 : Option Addr) (c0_1 : Nat) (l0_1 : List (S57)) (r : Int) (w : World) (hr0_1 : Kd.C k57 w A0_1 l0_1.length l0_1) (hc0_1 : l0_1.length ≤ c0_1) (h : spec_CountTrees.f k a0_0 l0_1 = some r) :
  Calls Try.prog 29 #[.agg #[.int .i64 a0_0, .slice A0_1 l0_1.length c0_1]] w fun e w' => e = .returned (.int .i64 r) ∧ Below w.heap.size w w' := by
 have hu30 := Try.underlying30
 have HR0_1 := Aside0.mk hr0_1
 have HC0_1 := Aside0.mk hc0_1
 clear hr0_1 hc0_1
 have HB := Aside0.mk (Below.refl w.heap.size w)
 have H : ((spec_GraphOk.f k a0_0 l0_1).bind fun t434 => (if t434 = true then ((spec_ReducedLaplacian.f k a0_0 l0_1 0).bind fun t435 => ((spec_Determinant.f k t435).bind fun t438 => (some t438))) else (some 0))) = some r := h
 clear h
 replace H := Option.bind_eq_some_iff.mp H
 obtain ⟨t434, A20, H⟩ := H
 replace H : (if t434 = true then ((spec_ReducedLaplacian.f k a0_0 l0_1 0).bind fun t435 => ((spec_Determinant.f k t435).bind fun t438 => (some t438))) else (some 0)) = some r := H
 have A2 := Aside0.mk A20
 clear A20
 by_cases c3 : t434 = true
 ·subst c3
  have H1 : ((spec_ReducedLaplacian.f k a0_0 l0_1 0).bind fun t435 => ((spec_Determinant.f k t435).bind fun t438 => (some t438))) = some r := by rw [if_pos rfl] at H; exact H
  clear H
  have H := H1
  clear H1
  replace H := Option.bind_eq_some_iff.mp H
  obtain ⟨t435, A40, H⟩ := H
  replace H : ((spec_Determinant.f k t435).bind fun t438 => (some t438)) = some r := H
  have A4 := Aside0.mk A40
  clear A40
  replace H := Option.bind_eq_some_iff.mp H
  obtain ⟨t438, A50, H⟩ := H
  replace H : (some t438) = some r := H
  have A5 := Aside0.mk A50
  clear A50
  obtain rfl := Option.some.inj H
  go_enter Try.func29, Try.ntmps29
  go_wp2_with (first | ((with_reducible refine gate_dst (N := 1) rfl ?_); refine box_event ?hg (N := 1) ?hd (cs := #[.int .i64 a0_0, .slice A0_1 l0_1.length c0_1]) (t := 30) ?hr ?_; (case hd => rfl); (case hg => rfl); (case hr => first | (go_simp; done) | (go_simp; rfl)); intro gb433 hg w6 hbox hb; have BK433 := Aside0.mk (hbox); have GW433 := Aside0.mk ((by rw [hg]; exact (below_size (Lz HB)) : w.heap.size ≤ gb433)); have GE433 := Aside0.mk ((by rw [hg]; exact (below_size (Lz HB)) : w.heap.size ≤ gb433)); replace HB := Aside0.mk (below_step (Lz HB) hb); clear hb hbox hg; have hcz7_0 : w6.cell? ⟨gb433, 0, none⟩ = some (.int .i64 a0_0) := (blk_cell BK433.out 0).trans rfl; have hcz7_1 : w6.cell? ⟨gb433, 1, none⟩ = some (.slice A0_1 l0_1.length c0_1) := (blk_cell BK433.out 1).trans rfl; have hfz7_0 := blk_frozen BK433.out 0; have hfz7_1 := blk_frozen BK433.out 1) | ((with_reducible refine gate_callee (f := 47) rfl ?_); refine goesM_ (some 4) rfl rfl Try.func47 (by kernel_rfl) rfl #[.agg #[.int .i64 a0_0, .slice A0_1 l0_1.length c0_1]] rfl ?_; (with_reducible refine (spec_GraphOk.calls k a0_0 _ _ l0_1 true _ ?side1 ?side2 A2.out).mono ?_); (case side1 => exact Cz ((Kd.C_below HR0_1.out HB.out))); (case side2 => exact HC0_1.out); rintro e w8 ⟨rfl, hb⟩; refine ⟨_, rfl, ?_⟩; replace BK433 := Aside0.mk (blk_below (g := gb433) (o := .cells #[.int .i64 a0_0, .slice A0_1 l0_1.length c0_1] 30 (0, 0)) (Bz BK433) hb); replace HB := Aside0.mk (below_step (by exact Lz1 HB GE433) hb); (try clear hb); (try clear hb2); (try clear hk); (try clear hi); have hcz9_0 : w8.cell? ⟨gb433, 0, none⟩ = some (.int .i64 a0_0) := (blk_cell BK433.out 0).trans rfl; have hcz9_1 : w8.cell? ⟨gb433, 1, none⟩ = some (.slice A0_1 l0_1.length c0_1) := (blk_cell BK433.out 1).trans rfl; have hfz9_0 := blk_frozen BK433.out 0; have hfz9_1 := blk_frozen BK433.out 1) | ((with_reducible refine gate_callee (f := 27) rfl ?_); refine goesM_ (some 7) rfl rfl Try.func27 (by kernel_rfl) rfl #[.agg #[.int .i64 a0_0, .slice A0_1 l0_1.length c0_1], .int .i64 0] rfl ?_; (with_reducible refine (spec_ReducedLaplacian.calls k a0_0 _ _ l0_1 0 t435 _ ?side1 ?side2 A4.out).mono ?_); (case side1 => exact Cz ((Kd.C_below HR0_1.out HB.out))); (case side2 => exact HC0_1.out); rintro e w10 ⟨v436, rfl, ho0, hb⟩; refine ⟨_, rfl, ?_⟩; have HO437 := Aside0.mk (Kd.S_lower ho0 (below_size (by exact Lz1 HB GE433))); replace BK433 := Aside0.mk (blk_below (g := gb433) (o := .cells #[.int .i64 a0_0, .slice A0_1 l0_1.length c0_1] 30 (0, 0)) (Bz BK433) hb); replace HB := Aside0.mk (below_step (by exact Lz1 HB GE433) hb); (try clear hb); (try clear ho0); obtain ⟨Ao11, co11, eo11⟩ := Kd.S_slice HO437.out; subst eo11) | ((with_reducible refine gate_callee (f := 66) rfl ?_); refine goesM_ (some 8) rfl rfl Try.func66 (by kernel_rfl) rfl #[.slice Ao11 t435.length co11] rfl ?_; (with_reducible refine (spec_Determinant.calls k _ _ t435 t438 _ ?side1 ?side2 A5.out).mono ?_); (case side1 => exact Cz ((Kd.S_reads' HO437.out).2.2)); (case side2 => exact (Kd.S_reads' HO437.out).2.1); rintro e w12 ⟨rfl, hb⟩; refine ⟨_, rfl, ?_⟩; replace HO437 := Aside0.mk (Kd.S_below (by (with_reducible repeat (first | apply Kd.S_alloc | apply Kd.S_drewN | apply Kd.S_drew)); exact HO437.out) hb); replace BK433 := Aside0.mk (blk_below (g := gb433) (o := .cells #[.int .i64 a0_0, .slice A0_1 l0_1.length c0_1] 30 (0, 0)) (Bz BK433) hb); replace HB := Aside0.mk (below_step (by exact Lz1 HB GE433) hb); (try clear hb); (try clear hb2); (try clear hk); (try clear hi)))
  go_ret
  exact ⟨by first | rfl | (simp [errW_none, errW_some] <;> rfl) | (simp [*, errW_none, errW_some] <;> rfl), by exact Lz1 HB GE433⟩
 replace c3 := Bool.eq_false_iff.mpr c3
 subst c3
 have H1 : (some 0) = some r := by rw [if_neg (show ¬ (false = true) by decide)] at H; exact H
 clear H
 have H := H1
 clear H1
 obtain rfl := Option.some.inj H
 go_enter Try.func29, Try.ntmps29
 go_wp2_with (first | ((with_reducible refine gate_dst (N := 1) rfl ?_); refine box_event ?hg (N := 1) ?hd (cs := #[.int .i64 a0_0, .slice A0_1 l0_1.length c0_1]) (t := 30) ?hr ?_; (case hd => rfl); (case hg => rfl); (case hr => first | (go_simp; done) | (go_simp; rfl)); intro gb433 hg w13 hbox hb; have BK433 := Aside0.mk (hbox); have GW433 := Aside0.mk ((by rw [hg]; exact (below_size (Lz HB)) : w.heap.size ≤ gb433)); have GE433 := Aside0.mk ((by rw [hg]; exact (below_size (Lz HB)) : w.heap.size ≤ gb433)); replace HB := Aside0.mk (below_step (Lz HB) hb); clear hb hbox hg; have hcz14_0 : w13.cell? ⟨gb433, 0, none⟩ = some (.int .i64 a0_0) := (blk_cell BK433.out 0).trans rfl; have hcz14_1 : w13.cell? ⟨gb433, 1, none⟩ = some (.slice A0_1 l0_1.length c0_1) := (blk_cell BK433.out 1).trans rfl; have hfz14_0 := blk_frozen BK433.out 0; have hfz14_1 := blk_frozen BK433.out 1) | ((with_reducible refine gate_callee (f := 47) rfl ?_); refine goesM_ (some 4) rfl rfl Try.func47 (by kernel_rfl) rfl #[.agg #[.int .i64 a0_0, .slice A0_1 l0_1.length c0_1]] rfl ?_; (with_reducible refine (spec_GraphOk.calls k a0_0 _ _ l0_1 false _ ?side1 ?side2 A2.out).mono ?_); (case side1 => exact Cz ((Kd.C_below HR0_1.out HB.out))); (case side2 => exact HC0_1.out); rintro e w15 ⟨rfl, hb⟩; refine ⟨_, rfl, ?_⟩; replace BK433 := Aside0.mk (blk_below (g := gb433) (o := .cells #[.int .i64 a0_0, .slice A0_1 l0_1.length c0_1] 30 (0, 0)) (Bz BK433) hb); replace HB := Aside0.mk (below_step (by exact Lz1 HB GE433) hb); (try clear hb); (try clear hb2); (try clear hk); (try clear hi)))
 go_ret
 exact ⟨by first | rfl | (simp [errW_none, errW_some] <;> rfl) | (simp [*, errW_none, errW_some] <;> rfl), by exact Lz1 HB GE433⟩
def impl_MatrixOk.l0 : Nat → List (List Int) → List (List Int) → Int → Int → Option (Bool)
 | 0, _, _, _, _ => none
 | k + 1, x0, x8, x9, x10 => if x10 < x9 then (if 0 ≤ x10 then (if x10 < (x8.length : Int) then (if ((rd_L4 x8 x10).length : Int) = (x0.length : Int) then ((impl_allWithin.f k (rd_L4 x8 x10) (-500) 500).bind fun t442 => (if t442 = true then (impl_MatrixOk.l0 k x0 x8 x9 (wrap64 (x10 + 1))) else (some false))) else (some false)) else (none)) else (none)) else (some true)
def impl_MatrixOk.f (k : Nat) (l0 : List (List Int)) : Option (Bool) := if (l0.length : Int) > 6 then (some false) else (impl_MatrixOk.l0 k l0 l0 (l0.length : Int) 0)
set_option maxHeartbeats 8000000 in
set_option maxRecDepth 100000 in
theorem impl_MatrixOk.calls (k : Nat) (A0 : Option Addr) (c0 : Nat) (l0 : List (List Int)) (r : Bool) (w : World) (hr0 : Kd.C (Kd.slice 3 (Kd.int .i64)) w A0 l0.length l0) (hc0 : l0.length ≤ c0) (h : impl_MatrixOk.f k l0 = some r) :
  Calls Try.prog 59 #[.slice A0 l0.length c0] w fun e w' => e = .returned (.bool r) ∧ Drawn0 w w' := by
 have HR0 := Aside0.mk hr0
 have HC0 := Aside0.mk hc0
 clear hr0 hc0
 have H : (if (l0.length : Int) > 6 then (some false) else (impl_MatrixOk.l0 k l0 l0 (l0.length : Int) 0)) = some r := h
 clear h
 by_cases c2 : (l0.length : Int) > 6
 ·rw [if_pos c2] at H
  have c2b0 : decide (6 < (l0.length : Int)) = true := decide_eq_true c2
  have c2b1 : decide (6 < l0.length) = true := decide_eq_true (by omega)
  clear c2
  obtain rfl := Option.some.inj H
  go_enter Try.func59, Try.ntmps59
  go_wp2
  go_ret
  exact ⟨eqA, by repeat (first | exact Drawn0.refl _ | apply Drawn0.step)⟩
 rw [if_neg c2] at H
 have c2b0 : decide (6 < (l0.length : Int)) = false := decide_eq_false c2
 have c2b1 : decide (6 < l0.length) = false := decide_eq_false (by omega)
 clear c2
 have H' := Aside0.mk H
 clear H
 go_enter Try.func59, Try.ntmps59
 go_wp2
 go_loopg [10] k (fun kq v10 w' => ∃ (x10_1 : Int), v10 = .int .i64 x10_1 ∧ Aside0 (impl_MatrixOk.l0 kq l0 l0 (l0.length : Int) x10_1 = some r) ∧ Aside0 (kq ≤ k) ∧ Drawn0 w w')
 case atStart => exact ⟨(0), eqA, H', ⟨Nat.le_refl _⟩, by repeat (first | exact Drawn0.refl _ | apply Drawn0.step)⟩
 case round =>
  clear H'
  try clear c2
  try clear c2b0
  try clear c2b1
  obtain ⟨x10_1, rfl, HA, HK1, ⟨m1, rfl⟩⟩ := hrel
  cases gk with
  | zero => exact absurd HA.out (by simp [impl_MatrixOk.l0])
  | succ k1 =>
   have H := HA.out
   clear HA
   simp only [impl_MatrixOk.l0] at H
   by_cases c3 : x10_1 < (l0.length : Int)
   ·rw [if_pos c3] at H
    have c3b0 : decide (x10_1 < (l0.length : Int)) = true := decide_eq_true c3
    clear c3
    by_cases c4 : 0 ≤ x10_1
    ·rw [if_pos c4] at H
     have c4b0 : decide (0 ≤ x10_1) = true := decide_eq_true c4
     clear c4
     by_cases c5 : x10_1 < (l0.length : Int)
     ·rw [if_pos c5] at H
      have c5b0 : decide (x10_1 < (l0.length : Int)) = true := decide_eq_true c5
      clear c5
      by_cases c6 : ((rd_L4 l0 x10_1).length : Int) = (l0.length : Int)
      ·rw [if_pos c6] at H
       have c6b0 : (((rd_L4 l0 x10_1).length : Int) == (l0.length : Int)) = true := beq_iff_eq.mpr c6
       have c6b1 : (((rd_L4 l0 x10_1).length : Int) != (l0.length : Int)) = false := bne_eq_false_iff_eq.mpr c6
       have c6b2 : ((rd_L4 l0 x10_1).length == l0.length) = true := by first | simpa using c6 | (simp at c6 ⊢; omega)
       clear c6
       replace H := Option.bind_eq_some_iff.mp H
       obtain ⟨t442, A70, H⟩ := H
       replace H : (if t442 = true then (impl_MatrixOk.l0 k1 l0 l0 (l0.length : Int) (wrap64 (x10_1 + 1))) else (some false)) = some r := H
       have A7 := Aside0.mk A70
       clear A70
       by_cases c8 : t442 = true
       ·subst c8
        have H1 : (impl_MatrixOk.l0 k1 l0 l0 (l0.length : Int) (wrap64 (x10_1 + 1))) = some r := by rw [if_pos rfl] at H; exact H
        clear H
        have H := H1
        clear H1
        have H' := Aside0.mk H
        clear H
        have p441 : 0 ≤ (x10_1 : Int) := ofA
        have q441 : x10_1 < (l0.length : Int) := ofA
        obtain ⟨ad441, A441_0, c441_0, e441, hx441_0, hl441_0, hi441_0⟩ := at_L4 HR0.out x10_1 p441 q441
        cases e441
        have HR441_0 := Aside0.mk hi441_0
        have HC441_0 := Aside0.mk hl441_0
        clear hi441_0 hl441_0
        replace p441 := eq_true p441
        replace q441 := eq_true q441
        go_wp2_with (first | (go_at_call 85; (with_reducible refine (impl_allWithin.calls k1 _ _ (rd_L4 l0 x10_1) (-500) 500 true _ ?side1 ?side2 A7.out).mono ?_); (case side1 => exact Cz (HR441_0.out)); (case side2 => exact HC441_0.out); rintro e w' ⟨rfl, ⟨nd, rfl⟩⟩))
        go_roundg k1
        case measure => have := HK1.out; omega
        case rel => exact ⟨(wrap64 (x10_1 + 1)), eqA, H', ⟨by have := HK1.out; omega⟩, by repeat (first | exact Drawn0.refl _ | apply Drawn0.step)⟩
       replace c8 := Bool.eq_false_iff.mpr c8
       subst c8
       have H1 : (some false) = some r := by rw [if_neg (show ¬ (false = true) by decide)] at H; exact H
       clear H
       have H := H1
       clear H1
       obtain rfl := Option.some.inj H
       have p441 : 0 ≤ (x10_1 : Int) := ofA
       have q441 : x10_1 < (l0.length : Int) := ofA
       obtain ⟨ad441, A441_0, c441_0, e441, hx441_0, hl441_0, hi441_0⟩ := at_L4 HR0.out x10_1 p441 q441
       cases e441
       have HR441_0 := Aside0.mk hi441_0
       have HC441_0 := Aside0.mk hl441_0
       clear hi441_0 hl441_0
       replace p441 := eq_true p441
       replace q441 := eq_true q441
       go_wp2_with (first | (go_at_call 85; (with_reducible refine (impl_allWithin.calls k1 _ _ (rd_L4 l0 x10_1) (-500) 500 false _ ?side1 ?side2 A7.out).mono ?_); (case side1 => exact Cz (HR441_0.out)); (case side2 => exact HC441_0.out); rintro e w' ⟨rfl, ⟨nd, rfl⟩⟩))
       go_ret
       exact ⟨eqA, by repeat (first | exact Drawn0.refl _ | apply Drawn0.step)⟩
      rw [if_neg c6] at H
      have c6b0 : (((rd_L4 l0 x10_1).length : Int) == (l0.length : Int)) = false := beq_eq_false_iff_ne.mpr c6
      have c6b1 : (((rd_L4 l0 x10_1).length : Int) != (l0.length : Int)) = true := bne_iff_ne.mpr c6
      have c6b2 : ((rd_L4 l0 x10_1).length == l0.length) = false := by first | simpa using c6 | (simp at c6 ⊢; omega)
      obtain rfl := Option.some.inj H
      have p441 : 0 ≤ (x10_1 : Int) := ofA
      have q441 : x10_1 < (l0.length : Int) := ofA
      obtain ⟨ad441, A441_0, c441_0, e441, hx441_0, hl441_0, hi441_0⟩ := at_L4 HR0.out x10_1 p441 q441
      cases e441
      have HR441_0 := Aside0.mk hi441_0
      have HC441_0 := Aside0.mk hl441_0
      clear hi441_0 hl441_0
      replace p441 := eq_true p441
      replace q441 := eq_true q441
      go_wp2
      go_ret
      exact ⟨eqA, by repeat (first | exact Drawn0.refl _ | apply Drawn0.step)⟩
     rw [if_neg c5] at H
     exact absurd H (by simp)
    rw [if_neg c4] at H
    exact absurd H (by simp)
   rw [if_neg c3] at H
   have c3b0 : decide (x10_1 < (l0.length : Int)) = false := decide_eq_false c3
   clear c3
   obtain rfl := Option.some.inj H
   go_wp2
   go_ret
   exact ⟨eqA, by repeat (first | exact Drawn0.refl _ | apply Drawn0.step)⟩
def impl_bitsOf.l0 : Nat → Int → List Int → Int → Option (List Int)
 | 0, _, _, _ => none
 | k + 1, x0, x3, x4 => if 0 ≤ x4 then (if (shr .i64 x0 x4) > 0 then (if (Go.bits .and .i64 (shr .i64 x0 x4) 1) = 1 then (if x3.length < 17592186044416 then (impl_bitsOf.l0 k x0 (x3 ++ [x4]) (wrap64 (x4 + 1))) else (none)) else (impl_bitsOf.l0 k x0 x3 (wrap64 (x4 + 1)))) else (some x3)) else (none)
def impl_bitsOf.f (k : Nat) (a0 : Int) : Option (List Int) := impl_bitsOf.l0 k a0 ([] : List Int) 0
set_option maxHeartbeats 8000000 in
set_option maxRecDepth 100000 in
theorem impl_bitsOf.calls (k : Nat) (a0 : Int) (r : List Int) (w : World) (h : impl_bitsOf.f k a0 = some r) :
  Calls Try.prog 60 #[.int .i64 a0] w fun e w' => ∃ v0_ : Value, e = .returned (v0_) ∧ Kd.R (Kd.int .i64) 3 w' w.heap.size (fun _ => True) v0_ r ∧ Below w.heap.size w w' := by
 have HB := Aside0.mk (Below.refl w.heap.size w)
 have H : (impl_bitsOf.l0 k a0 ([] : List Int) 0) = some r := h
 clear h
 have H' := Aside0.mk H
 clear H
 go_enter Try.func60, Try.ntmps60
 go_wp2
 go_loopg [3, 4] k (fun kq v3 v4 w' => ∃ (x3_1 : List Int) (x4_1 : Int), v4 = .int .i64 x4_1 ∧ Aside0 (impl_bitsOf.l0 kq a0 x3_1 x4_1 = some r) ∧ Aside0 (kq ≤ k) ∧ Aside0 (Kd.R (Kd.int .i64) 3 w' w.heap.size (fun _ => True) v3 x3_1) ∧ Aside0 (Below w.heap.size w w'))
 case atStart => exact ⟨(([] : List Int)), (0), eqA, H', ⟨Nat.le_refl _⟩, ⟨by first | exact Kd.R_nil _ _ _ _ _ | exact Kd.N_nil _ _ _ _ _ | exact Kd.V_nil _ _ _ _ _ | exact Kd.Q_nil _ _ _ _ _ | exact Kd.S_nil _ _ _ _ _⟩, ⟨by exact Lz HB⟩⟩
 case round =>
  clear H'
  obtain ⟨x3_1, x4_1, rfl, HA, HK1, HO_3, HB⟩ := hrel
  cases gk with
  | zero => exact absurd HA.out (by simp [impl_bitsOf.l0])
  | succ k1 =>
   have H := HA.out
   clear HA
   simp only [impl_bitsOf.l0] at H
   by_cases c2 : 0 ≤ x4_1
   ·rw [if_pos c2] at H
    have c2b0 := eq_true c2
    have c2b1 : decide (0 ≤ x4_1) = true := decide_eq_true c2
    clear c2
    obtain ⟨ji3, hji3⟩ : ∃ j_ : Int, (shr .i64 a0 x4_1) = j_ := ⟨_, rfl⟩
    replace H : (if (ji3) > 0 then (if (Go.bits .and .i64 (ji3) 1) = 1 then (if x3_1.length < 17592186044416 then (impl_bitsOf.l0 k1 a0 (x3_1 ++ [x4_1]) (wrap64 (x4_1 + 1))) else (none)) else (impl_bitsOf.l0 k1 a0 x3_1 (wrap64 (x4_1 + 1)))) else (some x3_1)) = some r := by first | (rw [hji3] at H; exact H) | (simp only [hji3] at H ⊢; exact H)
    have hji3_ : (a0 / 2 ^ min x4_1.toNat 64) = ji3 := hji3
    have hji3z : x4_1 ≤ 64 → (a0 / 2 ^ x4_1.toNat) = ji3 := shr_small hji3
    by_cases c4 : (ji3) > 0
    ·rw [if_pos c4] at H
     have c4b0 : decide (0 < (ji3)) = true := decide_eq_true c4
     clear c4
     have c5b0 := eq_true (ofA : 0 ≤ x4_1)
     by_cases c6 : (Go.bits .and .i64 (ji3) 1) = 1
     ·rw [if_pos c6] at H
      have c6b0 : ((Go.bits .and .i64 (ji3) 1) == 1) = true := beq_iff_eq.mpr c6
      have c6b1 : ((Go.bits .and .i64 (ji3) 1) != 1) = false := bne_eq_false_iff_eq.mpr c6
      clear c6
      by_cases c7 : x3_1.length < 17592186044416
      ·rw [if_pos c7] at H
       have LMc7 := Aside0.mk c7
       clear c7
       obtain ⟨y443, hy443⟩ : ∃ y_ : List Int, y_ = (x3_1 ++ [x4_1]) := ⟨_, rfl⟩
       replace H : (impl_bitsOf.l0 k1 a0 y443 (wrap64 (x4_1 + 1))) = some r := by first | (rw [hy443]; with_reducible exact H) | (have H2_ := (Option.bind_some _ _).symm.trans H; rw [hy443]; with_reducible exact H2_) | (have H2_ := (Option.bind_some _ _).symm.trans H; with_reducible exact H2_) | with_reducible exact H | (rw [hy443]; exact H) | exact H
       have Ny443 := Aside0.mk hy443
       clear hy443
       have H' := Aside0.mk H
       clear H
       go_wp2_with (first | ((with_reducible refine gate_builtin (b := .append) (xs := #[.tmp 16, .tmp 18]) rfl ?_); at_builtin; refine Kd.R_append (Kd.int .i64) (w0 := w) w.heap.size rfl (.tmp 16) (.tmp 18) 37 3 (.int .i64 0) 8 rfl Try.underlying37 info3 rfl (by decide) (by omega) u3 x3_1 x4_1 [.int .i64 x4_1] (fun _ => True) (fun _ => False) rfl rfl ?aP (fun _ hk => hk.elim) ?aF ?aO ?aB ?aS ?aL ?_; (case aP => exact rfl); (case aB => exact (Lz HB)); (case aF => exact (fun _ _ => trivial)); (case aO => exact (Rz HO_3)); (case aS => exact (below_size (Lz HB))); (case aL => have := LMc7.out; omega); intro v444 w8 ho hb hg hat; rw [← Ny443.out] at ho; replace HB := Aside0.mk (hb); have HO445 := Aside0.mk (ho); clear HO_3; clear ho hb hg hat))
       go_roundg k1
       case measure => have := HK1.out; omega
       case rel => exact ⟨(y443), (wrap64 (x4_1 + 1)), eqA, H', ⟨by have := HK1.out; omega⟩, ⟨by exact Rz HO445⟩, ⟨by exact Lz HB⟩⟩
      rw [if_neg c7] at H
      exact absurd H (by simp)
     rw [if_neg c6] at H
     have c6b0 : ((Go.bits .and .i64 (ji3) 1) == 1) = false := beq_eq_false_iff_ne.mpr c6
     have c6b1 : ((Go.bits .and .i64 (ji3) 1) != 1) = true := bne_iff_ne.mpr c6
     have H' := Aside0.mk H
     clear H
     go_wp2
     go_roundg k1
     case measure => have := HK1.out; omega
     case rel => exact ⟨(x3_1), (wrap64 (x4_1 + 1)), eqA, H', ⟨by have := HK1.out; omega⟩, ⟨by exact Rz HO_3⟩, ⟨by exact Lz HB⟩⟩
    rw [if_neg c4] at H
    have c4b0 : decide (0 < (ji3)) = false := decide_eq_false c4
    clear c4
    obtain rfl := Option.some.inj H
    go_wp2
    go_ret
    exact ⟨_, by first | rfl | (simp [errW_none, errW_some] <;> rfl) | (simp only [← hji3]; first | rfl | (simp [errW_none, errW_some] <;> rfl)) | (simp [*, errW_none, errW_some] <;> rfl), by exact Rz HO_3, by exact Lz HB⟩
   rw [if_neg c2] at H
   exact absurd H (by simp)
mutual
def impl_determinant.l0 : Nat → List (List Int) → List Int → Int → Int → Int → List Int → Int → Int → Option (Int)
 | 0, _, _, _, _, _, _, _, _ => none
 | k + 1, x0, x1, x2, x7, x8, x19, x20, x21 => if x21 < x20 then (if 0 ≤ x21 then (if x21 < (x19.length : Int) then (if (Go.bits .and .i64 (shr .i64 x2 x21) 1) = 0 then (impl_determinant.l0 k x0 x1 x2 x7 x8 x19 x20 (wrap64 (x21 + 1))) else (if (rd x19 x21) = 0 then (impl_determinant.l0 k x0 x1 x2 x7 (wrap64 (-x8)) x19 x20 (wrap64 (x21 + 1))) else (if 1 ≤ (x1.length : Int) then ((impl_determinant.f k x0 (x1.drop 1) (Go.bits .andNot .i64 x2 (shl .i64 1 x21))).bind fun t450 => (impl_determinant.l0 k x0 x1 x2 (wrap64 (x7 + (wrap64 ((wrap64 (x8 * (rd x19 x21))) * t450)))) (wrap64 (-x8)) x19 x20 (wrap64 (x21 + 1)))) else (none)))) else (none)) else (none)) else (some x7)
def impl_determinant.f : Nat → List (List Int) → List Int → Int → Option (Int)
 | 0, _, _, _ => none
 | k + 1, l0, l1, a2 => if (l1.length : Int) = 0 then (some 1) else (if 0 < (l1.length : Int) then (if 0 ≤ (rd l1 0) then (if (rd l1 0) < (l0.length : Int) then (impl_determinant.l0 k l0 l1 a2 0 1 (rd_L4 l0 (rd l1 0)) ((rd_L4 l0 (rd l1 0)).length : Int) 0) else (none)) else (none)) else (none))
end
def impl_determinant.T9 : Bool × List (List Nat × List Nat) := (true, [([], []), ([], []), ([], []), ([1, 2], [1, 2]), ([], []), ([], []), ([5], [5]), ([], []), ([], []), ([8], [8]), ([7, 9], [7, 9]), ([4, 6, 10], [4, 6, 10]), ([3, 11], [3, 11]), ([0, 12], [0, 12]), ([13, 11, 0, 1, 2, 3, 4, 5, 6, 7, 8, 9, 10, 11, 12, 13], [0, 13])])
def impl_determinant.B9 : List Nat := [0, 0, 0, 6, 0, 0, 32, 0, 0, 256, 896, 2032, 4094, 8191, 16383]
theorem impl_determinant.tab9 : rtab .any (opsOf Try.f62 9) = impl_determinant.T9 := by kernel_rfl
theorem impl_determinant.bits9 : waitsOk impl_determinant.T9.2 impl_determinant.B9 = true := by kernel_rfl
set_option maxHeartbeats 8000000 in
set_option maxRecDepth 100000 in
theorem impl_determinant.calls (k : Nat) : ∀ (A0 : Option Addr) (c0 : Nat) (l0 : List (List Int)) (A1 : Option Addr) (c1 : Nat) (l1 : List Int) (a2 : Int) (r : Int) (w : World) (hr0 : Kd.C (Kd.slice 3 (Kd.int .i64)) w A0 l0.length l0) (hc0 : l0.length ≤ c0) (hr1 : Kd.C (Kd.int .i64) w A1 l1.length l1) (hc1 : l1.length ≤ c1) (h : impl_determinant.f k l0 l1 a2 = some r),
  Calls Try.prog 62 #[.slice A0 l0.length c0, .slice A1 l1.length c1, .int .i64 a2] w fun e w' => e = .returned (.int .i64 r) ∧ Below w.heap.size w w' := by
 induction k using Nat.strongRecOn with
 | _ k ih =>
 intro A0 c0 l0 A1 c1 l1 a2 r w hr0 hc0 hr1 hc1 h
 cases k with
 | zero => exact absurd h (by simp [impl_determinant.f])
 | succ k =>
 simp only [impl_determinant.f] at h
 have HR0 := Aside0.mk hr0
 have HC0 := Aside0.mk hc0
 clear hr0 hc0
 have HR1 := Aside0.mk hr1
 have HC1 := Aside0.mk hc1
 clear hr1 hc1
 have HB := Aside0.mk (Below.refl w.heap.size w)
 have H : (if (l1.length : Int) = 0 then (some 1) else (if 0 < (l1.length : Int) then (if 0 ≤ (rd l1 0) then (if (rd l1 0) < (l0.length : Int) then (impl_determinant.l0 k l0 l1 a2 0 1 (rd_L4 l0 (rd l1 0)) ((rd_L4 l0 (rd l1 0)).length : Int) 0) else (none)) else (none)) else (none))) = some r := h
 clear h
 by_cases c4 : (l1.length : Int) = 0
 ·rw [if_pos c4] at H
  have c4b0 : ((l1.length : Int) == 0) = true := beq_iff_eq.mpr c4
  have c4b1 : ((l1.length : Int) != 0) = false := bne_eq_false_iff_eq.mpr c4
  clear c4
  obtain rfl := Option.some.inj H
  go_enter Try.func62, Try.ntmps62
  go_wp2
  go_ret
  exact ⟨by first | rfl | (simp [errW_none, errW_some] <;> rfl) | (simp [*, errW_none, errW_some] <;> rfl), by exact Lz HB⟩
 rw [if_neg c4] at H
 have c4b0 : ((l1.length : Int) == 0) = false := beq_eq_false_iff_ne.mpr c4
 have c4b1 : ((l1.length : Int) != 0) = true := bne_iff_ne.mpr c4
 have c4b2 : ¬ (l1 = []) := fun h_ => c4 (by rw [h_]; rfl)
 by_cases c5 : 0 < (l1.length : Int)
 ·rw [if_pos c5] at H
  have c5b0 : decide (0 < (l1.length : Int)) = true := decide_eq_true c5
  have c5b1 : decide (0 < l1.length) = true := decide_eq_true (by omega)
  clear c5
  by_cases c6 : 0 ≤ (rd l1 0)
  ·rw [if_pos c6] at H
   have c6b0 : decide (0 ≤ (rd l1 0)) = true := decide_eq_true c6
   clear c6
   by_cases c7 : (rd l1 0) < (l0.length : Int)
   ·rw [if_pos c7] at H
    have c7b0 : decide ((rd l1 0) < (l0.length : Int)) = true := decide_eq_true c7
    clear c7
    have H' := Aside0.mk H
    clear H
    have p446 : 0 ≤ (0 : Int) := (by omega)
    have q446 : 0 < (l1.length : Int) := ofA
    obtain ⟨ad446, e446, hx446_0⟩ := Kd.at_int HR1.out 0 p446 q446
    cases e446
    have qi446 : (0 < l1.length) = True := eq_true (by omega)
    (try rw [show ((0 : Int)).toNat = 0 from rfl] at hx446_0)
    (try rw [Addr.add_zero'] at hx446_0)
    replace p446 := eq_true p446
    replace q446 := eq_true q446
    have p447 : 0 ≤ ((rd l1 0) : Int) := ofA
    have q447 : (rd l1 0) < (l0.length : Int) := ofA
    obtain ⟨ad447, A447_0, c447_0, e447, hx447_0, hl447_0, hi447_0⟩ := at_L4 HR0.out (rd l1 0) p447 q447
    cases e447
    have HR447_0 := Aside0.mk hi447_0
    have HC447_0 := Aside0.mk hl447_0
    clear hi447_0 hl447_0
    replace p447 := eq_true p447
    replace q447 := eq_true q447
    go_enter Try.func62, Try.ntmps62
    go_wp2
    go_loopg [7, 8, 21] k (fun kq v7 v8 v21 w' => ∃ (x7_1 : Int) (x8_1 : Int) (x21_1 : Int), v7 = .int .i64 x7_1 ∧ v8 = .int .i64 x8_1 ∧ v21 = .int .i64 x21_1 ∧ Aside0 (impl_determinant.l0 kq l0 l1 a2 x7_1 x8_1 (rd_L4 l0 (rd l1 0)) ((rd_L4 l0 (rd l1 0)).length : Int) x21_1 = some r) ∧ Aside0 (kq ≤ k) ∧ Aside0 (Below w.heap.size w w'))
    case atStart => exact ⟨(0), (1), (0), eqA, eqA, eqA, H', ⟨Nat.le_refl _⟩, ⟨by exact Lz HB⟩⟩
    case round =>
     clear H'
     try clear c1
     try clear c4
     try clear c4b0
     try clear c4b1
     try clear c4b2
     try clear c5
     try clear c5b0
     try clear c5b1
     try clear c6
     try clear c6b0
     try clear c7
     try clear c7b0
     try clear p446
     try clear p447
     try clear q446
     try clear q447
     obtain ⟨x7_1, x8_1, x21_1, rfl, rfl, rfl, HA, HK1, HB⟩ := hrel
     cases gk with
     | zero => exact absurd HA.out (by simp [impl_determinant.l0])
     | succ k1 =>
      have H := HA.out
      clear HA
      simp only [impl_determinant.l0] at H
      by_cases c8 : x21_1 < ((rd_L4 l0 (rd l1 0)).length : Int)
      ·rw [if_pos c8] at H
       have c8b0 : decide (x21_1 < ((rd_L4 l0 (rd l1 0)).length : Int)) = true := decide_eq_true c8
       clear c8
       by_cases c9 : 0 ≤ x21_1
       ·rw [if_pos c9] at H
        have c9b0 : decide (0 ≤ x21_1) = true := decide_eq_true c9
        clear c9
        by_cases c10 : x21_1 < ((rd_L4 l0 (rd l1 0)).length : Int)
        ·rw [if_pos c10] at H
         have c10b0 : decide (x21_1 < ((rd_L4 l0 (rd l1 0)).length : Int)) = true := decide_eq_true c10
         clear c10
         have c11b0 := eq_true (ofA : 0 ≤ x21_1)
         obtain ⟨ji12, hji12⟩ : ∃ j_ : Int, (shr .i64 a2 x21_1) = j_ := ⟨_, rfl⟩
         replace H : (if (Go.bits .and .i64 (ji12) 1) = 0 then (impl_determinant.l0 k1 l0 l1 a2 x7_1 x8_1 (rd_L4 l0 (rd l1 0)) ((rd_L4 l0 (rd l1 0)).length : Int) (wrap64 (x21_1 + 1))) else (if (rd (rd_L4 l0 (rd l1 0)) x21_1) = 0 then (impl_determinant.l0 k1 l0 l1 a2 x7_1 (wrap64 (-x8_1)) (rd_L4 l0 (rd l1 0)) ((rd_L4 l0 (rd l1 0)).length : Int) (wrap64 (x21_1 + 1))) else (if 1 ≤ (l1.length : Int) then ((impl_determinant.f k1 l0 (l1.drop 1) (Go.bits .andNot .i64 a2 (shl .i64 1 x21_1))).bind fun t450 => (impl_determinant.l0 k1 l0 l1 a2 (wrap64 (x7_1 + (wrap64 ((wrap64 (x8_1 * (rd (rd_L4 l0 (rd l1 0)) x21_1))) * t450)))) (wrap64 (-x8_1)) (rd_L4 l0 (rd l1 0)) ((rd_L4 l0 (rd l1 0)).length : Int) (wrap64 (x21_1 + 1)))) else (none)))) = some r := by first | (rw [hji12] at H; exact H) | (simp only [hji12] at H ⊢; exact H)
         have hji12_ : (a2 / 2 ^ min x21_1.toNat 64) = ji12 := hji12
         have hji12z : x21_1 ≤ 64 → (a2 / 2 ^ x21_1.toNat) = ji12 := shr_small hji12
         by_cases c13 : (Go.bits .and .i64 (ji12) 1) = 0
         ·rw [if_pos c13] at H
          have c13b0 : ((Go.bits .and .i64 (ji12) 1) == 0) = true := beq_iff_eq.mpr c13
          have c13b1 : ((Go.bits .and .i64 (ji12) 1) != 0) = false := bne_eq_false_iff_eq.mpr c13
          clear c13
          have H' := Aside0.mk H
          clear H
          have p448 : 0 ≤ (x21_1 : Int) := ofA
          have q448 : x21_1 < ((rd_L4 l0 (rd l1 0)).length : Int) := ofA
          obtain ⟨ad448, e448, hx448_0⟩ := Kd.at_int HR447_0.out x21_1 p448 q448
          cases e448
          replace hx448_0 := (HB.out.cell (World.block_lt_of_cell? w _ hx448_0)).trans hx448_0
          replace p448 := eq_true p448
          replace q448 := eq_true q448
          go_wp2
          go_roundg k1
          case measure => have := HK1.out; omega
          case rel => exact ⟨(x7_1), (x8_1), (wrap64 (x21_1 + 1)), eqA, eqA, eqA, H', ⟨by have := HK1.out; omega⟩, ⟨by exact Lz HB⟩⟩
         rw [if_neg c13] at H
         have c13b0 : ((Go.bits .and .i64 (ji12) 1) == 0) = false := beq_eq_false_iff_ne.mpr c13
         have c13b1 : ((Go.bits .and .i64 (ji12) 1) != 0) = true := bne_iff_ne.mpr c13
         by_cases c14 : (rd (rd_L4 l0 (rd l1 0)) x21_1) = 0
         ·rw [if_pos c14] at H
          have c14b0 : ((rd (rd_L4 l0 (rd l1 0)) x21_1) == 0) = true := beq_iff_eq.mpr c14
          have c14b1 : ((rd (rd_L4 l0 (rd l1 0)) x21_1) != 0) = false := bne_eq_false_iff_eq.mpr c14
          clear c14
          have H' := Aside0.mk H
          clear H
          have p448 : 0 ≤ (x21_1 : Int) := ofA
          have q448 : x21_1 < ((rd_L4 l0 (rd l1 0)).length : Int) := ofA
          obtain ⟨ad448, e448, hx448_0⟩ := Kd.at_int HR447_0.out x21_1 p448 q448
          cases e448
          replace hx448_0 := (HB.out.cell (World.block_lt_of_cell? w _ hx448_0)).trans hx448_0
          replace p448 := eq_true p448
          replace q448 := eq_true q448
          go_wp2
          go_roundg k1
          case measure => have := HK1.out; omega
          case rel => exact ⟨(x7_1), (wrap64 (-x8_1)), (wrap64 (x21_1 + 1)), eqA, eqA, eqA, H', ⟨by have := HK1.out; omega⟩, ⟨by exact Lz HB⟩⟩
         rw [if_neg c14] at H
         have c14b0 : ((rd (rd_L4 l0 (rd l1 0)) x21_1) == 0) = false := beq_eq_false_iff_ne.mpr c14
         have c14b1 : ((rd (rd_L4 l0 (rd l1 0)) x21_1) != 0) = true := bne_iff_ne.mpr c14
         by_cases c15 : 1 ≤ (l1.length : Int)
         ·rw [if_pos c15] at H
          have c15b0 := eq_true c15
          have c15b1 : decide (1 ≤ (l1.length : Int)) = true := decide_eq_true c15
          clear c15
          have c16b0 := eq_true (ofA : 0 ≤ x21_1)
          obtain ⟨ji17, hji17⟩ : ∃ j_ : Int, (shl .i64 1 x21_1) = j_ := ⟨_, rfl⟩
          replace H : ((impl_determinant.f k1 l0 (l1.drop 1) (Go.bits .andNot .i64 a2 (ji17))).bind fun t450 => (impl_determinant.l0 k1 l0 l1 a2 (wrap64 (x7_1 + (wrap64 ((wrap64 (x8_1 * (rd (rd_L4 l0 (rd l1 0)) x21_1))) * t450)))) (wrap64 (-x8_1)) (rd_L4 l0 (rd l1 0)) ((rd_L4 l0 (rd l1 0)).length : Int) (wrap64 (x21_1 + 1)))) = some r := by first | (rw [hji17] at H; exact H) | (simp only [hji17] at H ⊢; exact H)
          have hji17_ : (IntKind.i64.wrap (1 * 2 ^ min x21_1.toNat 64)) = ji17 := hji17
          have hji17z : x21_1 ≤ 64 → (IntKind.i64.wrap (1 * 2 ^ x21_1.toNat)) = ji17 := shl_small hji17
          have hji17u : (IntKind.i64.wrap (2 ^ min x21_1.toNat 64)) = ji17 := by have h_ := hji17_; rw [Int.one_mul] at h_; exact h_
          have hji17v : x21_1 ≤ 64 → (IntKind.i64.wrap (2 ^ x21_1.toNat)) = ji17 := fun hle_ => by have h_ := hji17z hle_; rw [Int.one_mul] at h_; exact h_
          have hji17y : (wrap64 (1 * 2 ^ min x21_1.toNat 64)) = ji17 := (i64_w _).symm.trans hji17_
          have hji17x : x21_1 ≤ 64 → (wrap64 (1 * 2 ^ x21_1.toNat)) = ji17 := fun h_ => (i64_w _).symm.trans (hji17z h_)
          replace H := Option.bind_eq_some_iff.mp H
          obtain ⟨t450, A180, H⟩ := H
          replace H : (impl_determinant.l0 k1 l0 l1 a2 (wrap64 (x7_1 + (wrap64 ((wrap64 (x8_1 * (rd (rd_L4 l0 (rd l1 0)) x21_1))) * t450)))) (wrap64 (-x8_1)) (rd_L4 l0 (rd l1 0)) ((rd_L4 l0 (rd l1 0)).length : Int) (wrap64 (x21_1 + 1))) = some r := H
          have A18 := Aside0.mk A180
          clear A180
          have H' := Aside0.mk H
          clear H
          have p448 : 0 ≤ (x21_1 : Int) := ofA
          have q448 : x21_1 < ((rd_L4 l0 (rd l1 0)).length : Int) := ofA
          obtain ⟨ad448, e448, hx448_0⟩ := Kd.at_int HR447_0.out x21_1 p448 q448
          cases e448
          replace hx448_0 := (HB.out.cell (World.block_lt_of_cell? w _ hx448_0)).trans hx448_0
          replace p448 := eq_true p448
          replace q448 := eq_true q448
          try go_wp2
          replace HB := Aside0.mk (below_drew1 HB.out)
          obtain ⟨i020, hi020, _, hsz20, _⟩ := info_parts info3
          obtain ⟨A20, hcut20, hA20, hC20⟩ := print_drop_of (P := Try.prog) (Value.int .i64) 0 37 3 .i64 Try.underlying37 hi020 hsz20 (some ad446) c1 l1 1 (by omega) (ofA) HC1.out
          have HR449 := Aside0.mk (Kd.C_of_reads (h1 := fun _ => rfl) (hA20 _ (Kd.reads_of_C HR1.out)))
          have HC449 := Aside0.mk hC20
          clear hA20 hC20 hi020 hsz20
          refine start_ (n := 15) (S := fun w' => True) (ds := []) #[false, false, false, false, false, false, false, false, false, false, false, false, false, false, false] (by kernel_rfl) rfl rfl trivial (fun hHeld => ?_); refine with_tabW impl_determinant.tab9 impl_determinant.bits9 (fun HT_ HW_ => ?_)
          generalize wr.drew = w19 at HB HR449 hHeld ⊢
          refine pureT_ 0 33 HT_ ?_
          refine pureT_ 1 34 HT_ ?_
          refine pureT_ 2 35 HT_ ?_
          refine pureT_ 3 36 HT_ ?_
          refine pureT_ 4 37 HT_ ?_
          refine pureT_ 5 38 HT_ ?_
          refine pureT_ 6 39 HT_ ?_
          refine pureT_ 7 40 HT_ ?_
          refine pureT_ 8 41 HT_ ?_
          refine pureT_ 9 42 HT_ ?_
          refine pureT_ 10 43 HT_ ?_
          refine one_ (i := 11) (N := some 44) #[true, true, true, true, true, true, true, true, true, true, true, true, false, false, false] rfl rfl (one_of HT_.out (by kernel_rfl)) (by decide) (fun K hK => ?_)
          refine goes_ Try.func62 (by kernel_rfl) rfl #[.slice (some ad447) l0.length c0, .slice A20 (l1.drop 1).length (c1 - 1), .int .i64 (Go.bits .andNot .i64 a2 (ji17))] (by rfl) rfl rfl (by (try simp only [List.map_toArray, List.map_cons, List.map_nil]); first | done | (rw [show (l1.drop 1).length = (l1.length - 1) from List.length_drop] <;> rfl) | (simp only [hji17]; rfl) | rfl | (simp only [List.length_drop, List.length_take]; rfl)) ?_
          with_reducible refine (ih k1 (by have := HK1.out; omega) _ _ l0 _ _ (l1.drop 1) (Go.bits .andNot .i64 a2 (ji17)) t450 _ ?side1 ?side2 ?side3 ?side4 A18.out).mono ?_
          (case side1 => exact Cz ((Kd.C_below HR0.out HB.out)))
          (case side2 => exact HC0.out)
          (case side3 => exact Cz ((Kd.C_below HR449.out HB.out)))
          (case side4 => exact HC449.out)
          rintro e w21 ⟨rfl, hb⟩
          refine ⟨_, rfl, ?_⟩
          replace HB := Aside0.mk (below_step (Lz HB) hb)
          (try clear hb)
          (try clear hb2)
          (try clear hk)
          (try clear hi)
          refine hK.out _ _ trivial (fun hHeld => ?_)
          clear hK K
          refine norm_ (a' := ?_) ?_ ?_
          rotate_left
          ·show Act.put _ (some 44) _ = _
           simp only [Act.put, List.setIfInBounds_toArray, List.set_cons_zero, List.set_cons_succ, i64_w, i32_w]
           rfl
          refine pureT_ 12 45 HT_ ?_
          refine pureT_ 13 46 HT_ ?_
          refine pureT_ 14 7 HT_ ?_
          refine done_ (done_of HT_.out (by kernel_rfl)) ?_
          try go_wp2
          go_roundg k1
          case measure => have := HK1.out; omega
          case rel => exact ⟨(wrap64 (x7_1 + (wrap64 ((wrap64 (x8_1 * (rd (rd_L4 l0 (rd l1 0)) x21_1))) * t450)))), (wrap64 (-x8_1)), (wrap64 (x21_1 + 1)), eqA, eqA, eqA, H', ⟨by have := HK1.out; omega⟩, ⟨by exact Lz HB⟩⟩
         rw [if_neg c15] at H
         exact absurd H (by simp)
        rw [if_neg c10] at H
        exact absurd H (by simp)
       rw [if_neg c9] at H
       exact absurd H (by simp)
      rw [if_neg c8] at H
      have c8b0 : decide (x21_1 < ((rd_L4 l0 (rd l1 0)).length : Int)) = false := decide_eq_false c8
      clear c8
      obtain rfl := Option.some.inj H
      go_wp2
      go_ret
      exact ⟨by first | rfl | (simp [errW_none, errW_some] <;> rfl) | (simp [*, errW_none, errW_some] <;> rfl), by exact Lz HB⟩
   rw [if_neg c7] at H
   exact absurd H (by simp)
  rw [if_neg c6] at H
  exact absurd H (by simp)
 rw [if_neg c5] at H
 exact absurd H (by simp)
def impl_Determinant.f (k : Nat) (l0 : List (List Int)) : Option (Int) := (impl_MatrixOk.f k l0).bind fun t451 => (if t451 = true then ((impl_bitsOf.f k (wrap64 ((shl .i64 1 (l0.length : Int)) - 1))).bind fun t452 => ((impl_determinant.f k l0 t452 (wrap64 ((shl .i64 1 (l0.length : Int)) - 1))).bind fun t455 => (some t455))) else (some 0))
def impl_Determinant.T3 : Bool × List (List Nat × List Nat) := (true, [([], []), ([], []), ([1], [1]), ([2], [2]), ([3], [3]), ([4], [4]), ([], []), ([6], [6]), ([7], [7]), ([8], [8]), ([0, 5, 9, 5], [0, 5, 9]), ([10, 10, 0, 1, 2, 3, 4, 5, 6, 7, 8, 9, 10], [10])])
def impl_Determinant.B3 : List Nat := [0, 0, 2, 6, 14, 30, 0, 64, 192, 448, 1023, 2047]
theorem impl_Determinant.tab3 : rtab .any (opsOf Try.f67 3) = impl_Determinant.T3 := by kernel_rfl
theorem impl_Determinant.bits3 : waitsOk impl_Determinant.T3.2 impl_Determinant.B3 = true := by kernel_rfl
set_option maxHeartbeats 8000000 in
set_option maxRecDepth 100000 in
theorem impl_Determinant.calls (k : Nat) (A0 : Option Addr) (c0 : Nat) (l0 : List (List Int)) (r : Int) (w : World) (hr0 : Kd.C (Kd.slice 3 (Kd.int .i64)) w A0 l0.length l0) (hc0 : l0.length ≤ c0) (h : impl_Determinant.f k l0 = some r) :
  Calls Try.prog 67 #[.slice A0 l0.length c0] w fun e w' => e = .returned (.int .i64 r) ∧ Below w.heap.size w w' := by
 have HR0 := Aside0.mk hr0
 have HC0 := Aside0.mk hc0
 clear hr0 hc0
 have HB := Aside0.mk (Below.refl w.heap.size w)
 have H : ((impl_MatrixOk.f k l0).bind fun t451 => (if t451 = true then ((impl_bitsOf.f k (wrap64 ((shl .i64 1 (l0.length : Int)) - 1))).bind fun t452 => ((impl_determinant.f k l0 t452 (wrap64 ((shl .i64 1 (l0.length : Int)) - 1))).bind fun t455 => (some t455))) else (some 0))) = some r := h
 clear h
 replace H := Option.bind_eq_some_iff.mp H
 obtain ⟨t451, A20, H⟩ := H
 replace H : (if t451 = true then ((impl_bitsOf.f k (wrap64 ((shl .i64 1 (l0.length : Int)) - 1))).bind fun t452 => ((impl_determinant.f k l0 t452 (wrap64 ((shl .i64 1 (l0.length : Int)) - 1))).bind fun t455 => (some t455))) else (some 0)) = some r := H
 have A2 := Aside0.mk A20
 clear A20
 by_cases c3 : t451 = true
 ·subst c3
  have H1 : ((impl_bitsOf.f k (wrap64 ((shl .i64 1 (l0.length : Int)) - 1))).bind fun t452 => ((impl_determinant.f k l0 t452 (wrap64 ((shl .i64 1 (l0.length : Int)) - 1))).bind fun t455 => (some t455))) = some r := by rw [if_pos rfl] at H; exact H
  clear H
  have H := H1
  clear H1
  obtain ⟨ji4, hji4⟩ : ∃ j_ : Int, (shl .i64 1 (l0.length : Int)) = j_ := ⟨_, rfl⟩
  replace H : ((impl_bitsOf.f k (wrap64 ((ji4) - 1))).bind fun t452 => ((impl_determinant.f k l0 t452 (wrap64 ((ji4) - 1))).bind fun t455 => (some t455))) = some r := by first | (rw [hji4] at H; exact H) | (simp only [hji4] at H ⊢; exact H)
  (try rw [hji4] at A2)
  have hji4_ : (IntKind.i64.wrap (1 * 2 ^ min (l0.length : Int).toNat 64)) = ji4 := hji4
  have hji4z : (l0.length : Int) ≤ 64 → (IntKind.i64.wrap (1 * 2 ^ (l0.length : Int).toNat)) = ji4 := shl_small hji4
  have hji4p : (IntKind.i64.wrap (1 * 2 ^ min l0.length 64)) = ji4 := hji4_
  have hji4q : (l0.length : Int) ≤ 64 → (IntKind.i64.wrap (1 * 2 ^ l0.length)) = ji4 := hji4z
  have hji4r : (IntKind.i64.wrap (2 ^ min l0.length 64)) = ji4 := by have h_ := hji4p; rw [Int.one_mul] at h_; exact h_
  have hji4s : (l0.length : Int) ≤ 64 → (IntKind.i64.wrap (2 ^ l0.length)) = ji4 := fun hle_ => by have h_ := hji4q hle_; rw [Int.one_mul] at h_; exact h_
  have hji4u : (IntKind.i64.wrap (2 ^ min (l0.length : Int).toNat 64)) = ji4 := by have h_ := hji4_; rw [Int.one_mul] at h_; exact h_
  have hji4v : (l0.length : Int) ≤ 64 → (IntKind.i64.wrap (2 ^ (l0.length : Int).toNat)) = ji4 := fun hle_ => by have h_ := hji4z hle_; rw [Int.one_mul] at h_; exact h_
  have hji4y : (wrap64 (1 * 2 ^ min (l0.length : Int).toNat 64)) = ji4 := (i64_w _).symm.trans hji4_
  have hji4x : (l0.length : Int) ≤ 64 → (wrap64 (1 * 2 ^ (l0.length : Int).toNat)) = ji4 := fun h_ => (i64_w _).symm.trans (hji4z h_)
  replace H := Option.bind_eq_some_iff.mp H
  obtain ⟨t452, A50, H⟩ := H
  replace H : ((impl_determinant.f k l0 t452 (wrap64 ((ji4) - 1))).bind fun t455 => (some t455)) = some r := H
  have A5 := Aside0.mk A50
  clear A50
  replace H := Option.bind_eq_some_iff.mp H
  obtain ⟨t455, A60, H⟩ := H
  replace H : (some t455) = some r := H
  have A6 := Aside0.mk A60
  clear A60
  obtain rfl := Option.some.inj H
  go_enter Try.func67, Try.ntmps67
  try go_wp2_with (first | ((with_reducible refine gate_callee (f := 59) rfl ?_); refine goesM_ (some 4) rfl rfl Try.func59 (by kernel_rfl) rfl #[.slice A0 l0.length c0] rfl ?_; (with_reducible refine (impl_MatrixOk.calls k _ _ l0 true _ ?side1 ?side2 A2.out).mono ?_); (case side1 => exact Cz (HR0.out)); (case side2 => exact HC0.out); rintro e w' ⟨rfl, ⟨nd, rfl⟩⟩; refine ⟨_, rfl, ?_⟩))
  have HBq_ : Aside0 (Below w.heap.size w (w.drewN nd)) := Aside0.mk (pw_below_drewN HB.out _)
  clear HB
  generalize w.drewN nd = wq_ at HBq_ ⊢
  have HB := HBq_
  clear HBq_
  replace HB := Aside0.mk (below_drew1 HB.out)
  refine start_ (n := 12) (S := fun w' => True) (ds := []) #[false, false, false, false, false, false, false, false, false, false, false, false] (by kernel_rfl) rfl rfl trivial (fun hHeld => ?_); refine with_tabW impl_Determinant.tab3 impl_Determinant.bits3 (fun HT_ HW_ => ?_)
  generalize wq_.drew = w7 at HB hHeld ⊢
  refine pureT_ 0 6 HT_ ?_
  refine pureT_ 1 7 HT_ ?_
  refine pureT_ 2 8 HT_ ?_
  refine pureT_ 3 9 HT_ ?_
  refine pureT_ 4 10 HT_ ?_
  refine pureT_ 6 12 HT_ ?_
  refine pureT_ 7 13 HT_ ?_
  refine pureT_ 8 14 HT_ ?_
  refine pureT_ 9 15 HT_ ?_
  refine one_ (i := 5) (N := some 11) #[true, true, true, true, true, true, true, true, true, true, false, false] rfl rfl (one_of HT_.out (by kernel_rfl)) (by decide) (fun K hK => ?_)
  refine goes_ Try.func60 (by kernel_rfl) rfl #[.int .i64 (wrap64 ((ji4) - 1))] (by rfl) rfl rfl (by (try simp only [List.map_toArray, List.map_cons, List.map_nil]); first | done | (simp only [hji4]; rfl) | rfl | (simp only [List.length_drop, List.length_take]; rfl)) ?_
  with_reducible refine (impl_bitsOf.calls k (wrap64 ((ji4) - 1)) t452 _ A5.out).mono ?_
  rintro e w8 ⟨v453, rfl, ho0, hb⟩
  refine ⟨_, rfl, ?_⟩
  have HO454 := Aside0.mk (Kd.R_lower ho0 (below_size (Lz HB)))
  replace HB := Aside0.mk (below_step (Lz HB) hb)
  (try clear hb)
  (try clear hb2)
  (try clear hk)
  (try clear hi)
  (try clear ho0)
  obtain ⟨Ao9, co9, eo9⟩ := Kd.R_slice HO454.out
  (first | subst eo9 | (injection eo9 with f1_ f2_ f3_; have f4_ := f1_.symm; have f5_ := f3_.symm; clear f1_ f2_ f3_; subst f4_; subst f5_))
  refine hK.out _ _ trivial (fun hHeld => ?_)
  clear hK K
  refine norm_ (a' := ?_) ?_ ?_
  rotate_left
  ·show Act.put _ (some 11) _ = _
   simp only [Act.put, List.setIfInBounds_toArray, List.set_cons_zero, List.set_cons_succ, i64_w, i32_w]
   rfl
  refine one_ (i := 10) (N := some 16) #[true, true, true, true, true, true, true, true, true, true, true, false] rfl rfl (one_of HT_.out (by kernel_rfl)) (by decide) (fun K hK => ?_)
  refine goes_ Try.func62 (by kernel_rfl) rfl #[.slice A0 l0.length c0, .slice Ao9 t452.length co9, .int .i64 (wrap64 ((ji4) - 1))] (by rfl) rfl rfl (by (try simp only [List.map_toArray, List.map_cons, List.map_nil]); first | done | (simp only [hji4]; rfl) | rfl | (simp only [List.length_drop, List.length_take]; rfl)) ?_
  with_reducible refine (impl_determinant.calls k _ _ l0 _ _ t452 (wrap64 ((ji4) - 1)) t455 _ ?side1 ?side2 ?side3 ?side4 A6.out).mono ?_
  (case side1 => exact Cz ((Kd.C_below HR0.out HB.out)))
  (case side2 => exact HC0.out)
  (case side3 => exact Cz ((Kd.R_reads' HO454.out).2.2))
  (case side4 => exact (Kd.R_reads' HO454.out).2.1)
  rintro e w10 ⟨rfl, hb⟩
  refine ⟨_, rfl, ?_⟩
  replace HO454 := Aside0.mk (Kd.R_below (Rz HO454) hb)
  replace HB := Aside0.mk (below_step (Lz HB) hb)
  (try clear hb)
  (try clear hb2)
  (try clear hk)
  (try clear hi)
  refine hK.out _ _ trivial (fun hHeld => ?_)
  clear hK K
  refine norm_ (a' := ?_) ?_ ?_
  rotate_left
  ·show Act.put _ (some 16) _ = _
   simp only [Act.put, List.setIfInBounds_toArray, List.set_cons_zero, List.set_cons_succ, i64_w, i32_w]
   rfl
  refine pureT_ 11 2 HT_ ?_
  refine done_ (done_of HT_.out (by kernel_rfl)) ?_
  try go_wp2
  go_ret
  exact ⟨by first | rfl | (simp [errW_none, errW_some] <;> rfl) | (simp only [← hji4]; first | rfl | (simp [errW_none, errW_some] <;> rfl)) | (simp [*, errW_none, errW_some] <;> rfl), by exact Lz HB⟩
 replace c3 := Bool.eq_false_iff.mpr c3
 subst c3
 have H1 : (some 0) = some r := by rw [if_neg (show ¬ (false = true) by decide)] at H; exact H
 clear H
 have H := H1
 clear H1
 obtain rfl := Option.some.inj H
 go_enter Try.func67, Try.ntmps67
 go_wp2_with (first | ((with_reducible refine gate_callee (f := 59) rfl ?_); refine goesM_ (some 4) rfl rfl Try.func59 (by kernel_rfl) rfl #[.slice A0 l0.length c0] rfl ?_; (with_reducible refine (impl_MatrixOk.calls k _ _ l0 false _ ?side1 ?side2 A2.out).mono ?_); (case side1 => exact Cz (HR0.out)); (case side2 => exact HC0.out); rintro e w' ⟨rfl, ⟨nd, rfl⟩⟩; refine ⟨_, rfl, ?_⟩))
 go_ret
 exact ⟨by first | rfl | (simp [errW_none, errW_some] <;> rfl) | (simp [*, errW_none, errW_some] <;> rfl), by exact Lz HB⟩
def impl_CountTrees.f (k : Nat) (a0_0 : Int) (l0_1 : List (S57)) : Option (Int) := (impl_GraphOk.f k a0_0 l0_1).bind fun t457 => (if t457 = true then ((impl_ReducedLaplacian.f k a0_0 l0_1 0).bind fun t458 => ((impl_Determinant.f k t458).bind fun t461 => (some t461))) else (some 0))
set_option maxHeartbeats 8000000 in
set_option maxRecDepth 100000 in
theorem impl_CountTrees.calls (k : Nat) (a0_0 : Int) (A0_1 : Option Addr) (c0_1 : Nat) (l0_1 : List (S57)) (r : Int) (w : World) (hr0_1 : Kd.C k57 w A0_1 l0_1.length l0_1) (hc0_1 : l0_1.length ≤ c0_1) (h : impl_CountTrees.f k a0_0 l0_1 = some r) :
  Calls Try.prog 30 #[.agg #[.int .i64 a0_0, .slice A0_1 l0_1.length c0_1]] w fun e w' => e = .returned (.int .i64 r) ∧ Below w.heap.size w w' := by
 have hu30 := Try.underlying30
 have HR0_1 := Aside0.mk hr0_1
 have HC0_1 := Aside0.mk hc0_1
 clear hr0_1 hc0_1
 have HB := Aside0.mk (Below.refl w.heap.size w)
 have H : ((impl_GraphOk.f k a0_0 l0_1).bind fun t457 => (if t457 = true then ((impl_ReducedLaplacian.f k a0_0 l0_1 0).bind fun t458 => ((impl_Determinant.f k t458).bind fun t461 => (some t461))) else (some 0))) = some r := h
 clear h
 replace H := Option.bind_eq_some_iff.mp H
 obtain ⟨t457, A20, H⟩ := H
 replace H : (if t457 = true then ((impl_ReducedLaplacian.f k a0_0 l0_1 0).bind fun t458 => ((impl_Determinant.f k t458).bind fun t461 => (some t461))) else (some 0)) = some r := H
 have A2 := Aside0.mk A20
 clear A20
 by_cases c3 : t457 = true
 ·subst c3
  have H1 : ((impl_ReducedLaplacian.f k a0_0 l0_1 0).bind fun t458 => ((impl_Determinant.f k t458).bind fun t461 => (some t461))) = some r := by rw [if_pos rfl] at H; exact H
  clear H
  have H := H1
  clear H1
  replace H := Option.bind_eq_some_iff.mp H
  obtain ⟨t458, A40, H⟩ := H
  replace H : ((impl_Determinant.f k t458).bind fun t461 => (some t461)) = some r := H
  have A4 := Aside0.mk A40
  clear A40
  replace H := Option.bind_eq_some_iff.mp H
  obtain ⟨t461, A50, H⟩ := H
  replace H : (some t461) = some r := H
  have A5 := Aside0.mk A50
  clear A50
  obtain rfl := Option.some.inj H
  go_enter Try.func30, Try.ntmps30
  go_wp2_with (first | ((with_reducible refine gate_dst (N := 1) rfl ?_); refine box_event ?hg (N := 1) ?hd (cs := #[.int .i64 a0_0, .slice A0_1 l0_1.length c0_1]) (t := 30) ?hr ?_; (case hd => rfl); (case hg => rfl); (case hr => first | (go_simp; done) | (go_simp; rfl)); intro gb456 hg w6 hbox hb; have BK456 := Aside0.mk (hbox); have GW456 := Aside0.mk ((by rw [hg]; exact (below_size (Lz HB)) : w.heap.size ≤ gb456)); have GE456 := Aside0.mk ((by rw [hg]; exact (below_size (Lz HB)) : w.heap.size ≤ gb456)); replace HB := Aside0.mk (below_step (Lz HB) hb); clear hb hbox hg; have hcz7_0 : w6.cell? ⟨gb456, 0, none⟩ = some (.int .i64 a0_0) := (blk_cell BK456.out 0).trans rfl; have hcz7_1 : w6.cell? ⟨gb456, 1, none⟩ = some (.slice A0_1 l0_1.length c0_1) := (blk_cell BK456.out 1).trans rfl; have hfz7_0 := blk_frozen BK456.out 0; have hfz7_1 := blk_frozen BK456.out 1) | ((with_reducible refine gate_callee (f := 38) rfl ?_); refine goesM_ (some 4) rfl rfl Try.func38 (by kernel_rfl) rfl #[.agg #[.int .i64 a0_0, .slice A0_1 l0_1.length c0_1]] rfl ?_; (with_reducible refine (impl_GraphOk.calls k a0_0 _ _ l0_1 true _ ?side1 ?side2 A2.out).mono ?_); (case side1 => exact Cz ((Kd.C_below HR0_1.out HB.out))); (case side2 => exact HC0_1.out); rintro e w8 ⟨rfl, hb⟩; refine ⟨_, rfl, ?_⟩; replace BK456 := Aside0.mk (blk_below (g := gb456) (o := .cells #[.int .i64 a0_0, .slice A0_1 l0_1.length c0_1] 30 (0, 0)) (Bz BK456) hb); replace HB := Aside0.mk (below_step (by exact Lz1 HB GE456) hb); (try clear hb); (try clear hb2); (try clear hk); (try clear hi); have hcz9_0 : w8.cell? ⟨gb456, 0, none⟩ = some (.int .i64 a0_0) := (blk_cell BK456.out 0).trans rfl; have hcz9_1 : w8.cell? ⟨gb456, 1, none⟩ = some (.slice A0_1 l0_1.length c0_1) := (blk_cell BK456.out 1).trans rfl; have hfz9_0 := blk_frozen BK456.out 0; have hfz9_1 := blk_frozen BK456.out 1) | ((with_reducible refine gate_callee (f := 28) rfl ?_); refine goesM_ (some 7) rfl rfl Try.func28 (by kernel_rfl) rfl #[.agg #[.int .i64 a0_0, .slice A0_1 l0_1.length c0_1], .int .i64 0] rfl ?_; (with_reducible refine (impl_ReducedLaplacian.calls k a0_0 _ _ l0_1 0 t458 _ ?side1 ?side2 A4.out).mono ?_); (case side1 => exact Cz ((Kd.C_below HR0_1.out HB.out))); (case side2 => exact HC0_1.out); rintro e w10 ⟨v459, rfl, ho0, hb⟩; refine ⟨_, rfl, ?_⟩; have HO460 := Aside0.mk (Kd.S_lower ho0 (below_size (by exact Lz1 HB GE456))); replace BK456 := Aside0.mk (blk_below (g := gb456) (o := .cells #[.int .i64 a0_0, .slice A0_1 l0_1.length c0_1] 30 (0, 0)) (Bz BK456) hb); replace HB := Aside0.mk (below_step (by exact Lz1 HB GE456) hb); (try clear hb); (try clear ho0); obtain ⟨Ao11, co11, eo11⟩ := Kd.S_slice HO460.out; subst eo11) | ((with_reducible refine gate_callee (f := 67) rfl ?_); refine goesM_ (some 8) rfl rfl Try.func67 (by kernel_rfl) rfl #[.slice Ao11 t458.length co11] rfl ?_; (with_reducible refine (impl_Determinant.calls k _ _ t458 t461 _ ?side1 ?side2 A5.out).mono ?_); (case side1 => exact Cz ((Kd.S_reads' HO460.out).2.2)); (case side2 => exact (Kd.S_reads' HO460.out).2.1); rintro e w12 ⟨rfl, hb⟩; refine ⟨_, rfl, ?_⟩; replace HO460 := Aside0.mk (Kd.S_below (by (with_reducible repeat (first | apply Kd.S_alloc | apply Kd.S_drewN | apply Kd.S_drew)); exact HO460.out) hb); replace BK456 := Aside0.mk (blk_below (g := gb456) (o := .cells #[.int .i64 a0_0, .slice A0_1 l0_1.length c0_1] 30 (0, 0)) (Bz BK456) hb); replace HB := Aside0.mk (below_step (by exact Lz1 HB GE456) hb); (try clear hb); (try clear hb2); (try clear hk); (try clear hi)))
  go_ret
  exact ⟨by first | rfl | (simp [errW_none, errW_some] <;> rfl) | (simp [*, errW_none, errW_some] <;> rfl), by exact Lz1 HB GE456⟩
 replace c3 := Bool.eq_false_iff.mpr c3
 subst c3
 have H1 : (some 0) = some r := by rw [if_neg (show ¬ (false = true) by decide)] at H; exact H
 clear H
 have H := H1
 clear H1
 obtain rfl := Option.some.inj H
 go_enter Try.func30, Try.ntmps30
 go_wp2_with (first | ((with_reducible refine gate_dst (N := 1) rfl ?_); refine box_event ?hg (N := 1) ?hd (cs := #[.int .i64 a0_0, .slice A0_1 l0_1.length c0_1]) (t := 30) ?hr ?_; (case hd => rfl); (case hg => rfl); (case hr => first | (go_simp; done) | (go_simp; rfl)); intro gb456 hg w13 hbox hb; have BK456 := Aside0.mk (hbox); have GW456 := Aside0.mk ((by rw [hg]; exact (below_size (Lz HB)) : w.heap.size ≤ gb456)); have GE456 := Aside0.mk ((by rw [hg]; exact (below_size (Lz HB)) : w.heap.size ≤ gb456)); replace HB := Aside0.mk (below_step (Lz HB) hb); clear hb hbox hg; have hcz14_0 : w13.cell? ⟨gb456, 0, none⟩ = some (.int .i64 a0_0) := (blk_cell BK456.out 0).trans rfl; have hcz14_1 : w13.cell? ⟨gb456, 1, none⟩ = some (.slice A0_1 l0_1.length c0_1) := (blk_cell BK456.out 1).trans rfl; have hfz14_0 := blk_frozen BK456.out 0; have hfz14_1 := blk_frozen BK456.out 1) | ((with_reducible refine gate_callee (f := 38) rfl ?_); refine goesM_ (some 4) rfl rfl Try.func38 (by kernel_rfl) rfl #[.agg #[.int .i64 a0_0, .slice A0_1 l0_1.length c0_1]] rfl ?_; (with_reducible refine (impl_GraphOk.calls k a0_0 _ _ l0_1 false _ ?side1 ?side2 A2.out).mono ?_); (case side1 => exact Cz ((Kd.C_below HR0_1.out HB.out))); (case side2 => exact HC0_1.out); rintro e w15 ⟨rfl, hb⟩; refine ⟨_, rfl, ?_⟩; replace BK456 := Aside0.mk (blk_below (g := gb456) (o := .cells #[.int .i64 a0_0, .slice A0_1 l0_1.length c0_1] 30 (0, 0)) (Bz BK456) hb); replace HB := Aside0.mk (below_step (by exact Lz1 HB GE456) hb); (try clear hb); (try clear hb2); (try clear hk); (try clear hi)))
 go_ret
 exact ⟨by first | rfl | (simp [errW_none, errW_some] <;> rfl) | (simp [*, errW_none, errW_some] <;> rfl), by exact Lz1 HB GE456⟩
def spec_GroupOrder.f (k : Nat) (a0_0 : Int) (l0_1 : List (S57)) : Option (Int) := (spec_CountTrees.f k a0_0 l0_1).bind fun t481 => (some t481)
set_option maxHeartbeats 8000000 in
set_option maxRecDepth 100000 in
theorem spec_GroupOrder.calls (k : Nat) (a0_0 : Int) (A0_1 : Option Addr) (c0_1 : Nat) (l0_1 : List (S57)) (r : Int) (w : World) (hr0_1 : Kd.C k57 w A0_1 l0_1.length l0_1) (hc0_1 : l0_1.length ≤ c0_1) (h : spec_GroupOrder.f k a0_0 l0_1 = some r) :
  Calls Try.prog 31 #[.agg #[.int .i64 a0_0, .slice A0_1 l0_1.length c0_1]] w fun e w' => e = .returned (.int .i64 r) ∧ Below w.heap.size w w' := by
 have hu30 := Try.underlying30
 have HR0_1 := Aside0.mk hr0_1
 have HC0_1 := Aside0.mk hc0_1
 clear hr0_1 hc0_1
 have HB := Aside0.mk (Below.refl w.heap.size w)
 have H : ((spec_CountTrees.f k a0_0 l0_1).bind fun t481 => (some t481)) = some r := h
 clear h
 replace H := Option.bind_eq_some_iff.mp H
 obtain ⟨t481, A20, H⟩ := H
 replace H : (some t481) = some r := H
 have A2 := Aside0.mk A20
 clear A20
 obtain rfl := Option.some.inj H
 go_enter Try.func31, Try.ntmps31
 go_wp2_with (first | ((with_reducible refine gate_dst (N := 1) rfl ?_); refine box_event ?hg (N := 1) ?hd (cs := #[.int .i64 a0_0, .slice A0_1 l0_1.length c0_1]) (t := 30) ?hr ?_; (case hd => rfl); (case hg => rfl); (case hr => first | (go_simp; done) | (go_simp; rfl)); intro gb480 hg w3 hbox hb; have BK480 := Aside0.mk (hbox); have GW480 := Aside0.mk ((by rw [hg]; exact (below_size (Lz HB)) : w.heap.size ≤ gb480)); have GE480 := Aside0.mk ((by rw [hg]; exact (below_size (Lz HB)) : w.heap.size ≤ gb480)); replace HB := Aside0.mk (below_step (Lz HB) hb); clear hb hbox hg; have hcz4_0 : w3.cell? ⟨gb480, 0, none⟩ = some (.int .i64 a0_0) := (blk_cell BK480.out 0).trans rfl; have hcz4_1 : w3.cell? ⟨gb480, 1, none⟩ = some (.slice A0_1 l0_1.length c0_1) := (blk_cell BK480.out 1).trans rfl; have hfz4_0 := blk_frozen BK480.out 0; have hfz4_1 := blk_frozen BK480.out 1) | ((with_reducible refine gate_callee (f := 29) rfl ?_); refine goesM_ (some 4) rfl rfl Try.func29 (by kernel_rfl) rfl #[.agg #[.int .i64 a0_0, .slice A0_1 l0_1.length c0_1]] rfl ?_; (with_reducible refine (spec_CountTrees.calls k a0_0 _ _ l0_1 t481 _ ?side1 ?side2 A2.out).mono ?_); (case side1 => exact Cz ((Kd.C_below HR0_1.out HB.out))); (case side2 => exact HC0_1.out); rintro e w5 ⟨rfl, hb⟩; refine ⟨_, rfl, ?_⟩; replace BK480 := Aside0.mk (blk_below (g := gb480) (o := .cells #[.int .i64 a0_0, .slice A0_1 l0_1.length c0_1] 30 (0, 0)) (Bz BK480) hb); replace HB := Aside0.mk (below_step (by exact Lz1 HB GE480) hb); (try clear hb); (try clear hb2); (try clear hk); (try clear hi)))
 go_ret
 exact ⟨by first | rfl | (simp [errW_none, errW_some] <;> rfl) | (simp [*, errW_none, errW_some] <;> rfl), by exact Lz1 HB GE480⟩
def impl_GroupOrder.f (k : Nat) (a0_0 : Int) (l0_1 : List (S57)) : Option (Int) := (impl_CountTrees.f k a0_0 l0_1).bind fun t483 => (some t483)
set_option maxHeartbeats 8000000 in
set_option maxRecDepth 100000 in
theorem impl_GroupOrder.calls (k : Nat) (a0_0 : Int) (A0_1 : Option Addr) (c0_1 : Nat) (l0_1 : List (S57)) (r : Int) (w : World) (hr0_1 : Kd.C k57 w A0_1 l0_1.length l0_1) (hc0_1 : l0_1.length ≤ c0_1) (h : impl_GroupOrder.f k a0_0 l0_1 = some r) :
  Calls Try.prog 32 #[.agg #[.int .i64 a0_0, .slice A0_1 l0_1.length c0_1]] w fun e w' => e = .returned (.int .i64 r) ∧ Below w.heap.size w w' := by
 have hu30 := Try.underlying30
 have HR0_1 := Aside0.mk hr0_1
 have HC0_1 := Aside0.mk hc0_1
 clear hr0_1 hc0_1
 have HB := Aside0.mk (Below.refl w.heap.size w)
 have H : ((impl_CountTrees.f k a0_0 l0_1).bind fun t483 => (some t483)) = some r := h
 clear h
 replace H := Option.bind_eq_some_iff.mp H
 obtain ⟨t483, A20, H⟩ := H
 replace H : (some t483) = some r := H
 have A2 := Aside0.mk A20
 clear A20
 obtain rfl := Option.some.inj H
 go_enter Try.func32, Try.ntmps32
 go_wp2_with (first | ((with_reducible refine gate_dst (N := 1) rfl ?_); refine box_event ?hg (N := 1) ?hd (cs := #[.int .i64 a0_0, .slice A0_1 l0_1.length c0_1]) (t := 30) ?hr ?_; (case hd => rfl); (case hg => rfl); (case hr => first | (go_simp; done) | (go_simp; rfl)); intro gb482 hg w3 hbox hb; have BK482 := Aside0.mk (hbox); have GW482 := Aside0.mk ((by rw [hg]; exact (below_size (Lz HB)) : w.heap.size ≤ gb482)); have GE482 := Aside0.mk ((by rw [hg]; exact (below_size (Lz HB)) : w.heap.size ≤ gb482)); replace HB := Aside0.mk (below_step (Lz HB) hb); clear hb hbox hg; have hcz4_0 : w3.cell? ⟨gb482, 0, none⟩ = some (.int .i64 a0_0) := (blk_cell BK482.out 0).trans rfl; have hcz4_1 : w3.cell? ⟨gb482, 1, none⟩ = some (.slice A0_1 l0_1.length c0_1) := (blk_cell BK482.out 1).trans rfl; have hfz4_0 := blk_frozen BK482.out 0; have hfz4_1 := blk_frozen BK482.out 1) | ((with_reducible refine gate_callee (f := 30) rfl ?_); refine goesM_ (some 4) rfl rfl Try.func30 (by kernel_rfl) rfl #[.agg #[.int .i64 a0_0, .slice A0_1 l0_1.length c0_1]] rfl ?_; (with_reducible refine (impl_CountTrees.calls k a0_0 _ _ l0_1 t483 _ ?side1 ?side2 A2.out).mono ?_); (case side1 => exact Cz ((Kd.C_below HR0_1.out HB.out))); (case side2 => exact HC0_1.out); rintro e w5 ⟨rfl, hb⟩; refine ⟨_, rfl, ?_⟩; replace BK482 := Aside0.mk (blk_below (g := gb482) (o := .cells #[.int .i64 a0_0, .slice A0_1 l0_1.length c0_1] 30 (0, 0)) (Bz BK482) hb); replace HB := Aside0.mk (below_step (by exact Lz1 HB GE482) hb); (try clear hb); (try clear hb2); (try clear hk); (try clear hi)))
 go_ret
 exact ⟨by first | rfl | (simp [errW_none, errW_some] <;> rfl) | (simp [*, errW_none, errW_some] <;> rfl), by exact Lz1 HB GE482⟩
end Go.Proofs.Ytplcclifmajcfaa.P
end
section
set_option linter.unusedVariables false
set_option linter.unusedSimpArgs false
namespace Go.Proofs.Ytplcclifmajcfaa.Pure
open Go.RowKit Go.Proofs.Ytplcclifmajcfaa.P Go.Proofs.YtplcclifmajcfaaW.PrintWords Go.Proofs.YtplcclifmajcfaaW.PrintLast Go.Proofs.YtplcclifmajcfaaW.PrintMore Go.Proofs.Ytplcclifmajcfaa.Base Go.Proofs.Ytplcclifmajcfaa.Bits Go.Proofs.Ytplcclifmajcfaa.Loops
theorem rdL_drop {l : List (List Int)} {i : Nat} {a : List Int} {r : List (List Int)} (h : l.drop i = a :: r) : rd_L4 l (i : Int) = a := by
  unfold rd_L4
  rw [Int.toNat_natCast]
  exact get_drop h []
def rowB (n : Nat) (r : List Int) : Bool := decide (r.length = n) && allB r (-500) 500
def matB (m : List (List Int)) : Bool := decide (m.length ≤ 6) && m.all (rowB m.length)
theorem implMat_ev (m : List (List Int)) (hl : m.length < 4611686018427387904) (hr : ∀ r ∈ m, r.length < 4611686018427387904) : Ev (fun k => impl_MatrixOk.f k m) (matB m) := by
  simp only [impl_MatrixOk.f, matB]
  by_cases h6 : m.length ≤ 6
  · rw [decide_eq_true h6, Bool.true_and]
    refine ev_ifn (by omega) ?_
    refine ev_listE m (fun k (_ : Unit) i => impl_MatrixOk.l0 k m m (m.length : Int) i) (fun _ r => r.all (rowB m.length)) (fun _ _ => True) (fun s _ => ev_succ ?_) (fun s a rest i hlt hd _ => ?_) () trivial
    · simp only [impl_MatrixOk.l0]
      exact ev_ifn (by omega) (Ev.now _)
    · have ha : a ∈ m := List.mem_of_mem_drop (by rw [hd]; exact List.mem_cons_self)
      have aw := allWithin_ev a (-500) 500 (hr a ha)
      by_cases c : a.length = m.length
      · cases e : allB a (-500) 500 with
        | true =>
          rw [e] at aw
          refine Or.inr ⟨(), trivial, by simp [rowB, c, e], fun r h => ev_succ ?_⟩
          simp only [impl_MatrixOk.l0, rdL_drop hd, wrap_succ (show i < 4611686018427387904 by omega)]
          exact ev_ift (by omega) (ev_ift (by omega) (ev_ift (by omega) (ev_ift (by omega) (Ev.bind aw (ev_ift rfl h)))))
        | false =>
          rw [e] at aw
          refine Or.inl (ev_succ ?_)
          rw [show (a :: rest).all (rowB m.length) = false by simp [rowB, e]]
          simp only [impl_MatrixOk.l0, rdL_drop hd]
          exact ev_ift (by omega) (ev_ift (by omega) (ev_ift (by omega) (ev_ift (by omega) (Ev.bind aw (ev_iff (Ev.now _))))))
      · refine Or.inl (ev_succ ?_)
        rw [show (a :: rest).all (rowB m.length) = false by simp [rowB, c]]
        simp only [impl_MatrixOk.l0, rdL_drop hd]
        exact ev_ift (by omega) (ev_ift (by omega) (ev_ift (by omega) (ev_ifn (by omega) (Ev.now _))))
  · rw [decide_eq_false h6, Bool.false_and]
    exact ev_ift (by omega) (Ev.now _)
theorem specRow_ev (m : List (List Int)) (a : List Int) (ha : a.length < 4611686018427387904) (i : Int) (q : Bool) (hq : Ev (fun k => spec_MatrixOk.l0 k m m (m.length : Int) (wrap64 (i + 1))) q) :
    Ev (fun k => spec_MatrixOk.l1 k m m (m.length : Int) i a (a.length : Int) 0) (allB a (-500) 500 && q) := by
  refine ev_listE a (fun k (_ : Unit) j => spec_MatrixOk.l1 k m m (m.length : Int) i a (a.length : Int) j) (fun _ r => allB r (-500) 500 && q) (fun _ _ => True) (fun s _ => ev_succ ?_) (fun s x rest j hlt hd _ => ?_) () trivial
  · simp only [spec_MatrixOk.l1]
    exact ev_ifn (by omega) (by simpa [allB] using hq)
  · by_cases c : -500 ≤ x ∧ x ≤ 500
    · refine Or.inr ⟨(), trivial, by simp [allB, c], fun r h => ev_succ ?_⟩
      simp only [spec_MatrixOk.l1, rd_drop hd, in_eq, Option.bind_some, wrap_succ (show j < 4611686018427387904 by omega), decide_eq_true c]
      exact ev_ift (by omega) (ev_ift (by omega) (ev_ift (by omega) (ev_ift trivial h)))
    · refine Or.inl (ev_succ ?_)
      rw [show (allB (x :: rest) (-500) 500 && q) = false by simp [allB]; intro h1 h2; omega]
      simp only [spec_MatrixOk.l1, rd_drop hd, in_eq, Option.bind_some, decide_eq_false c]
      exact ev_ift (by omega) (ev_ift (by omega) (ev_ift (by omega) (ev_ifn (by simp) (Ev.now _))))
theorem specMat_ev (m : List (List Int)) (hl : m.length < 4611686018427387904) (hr : ∀ r ∈ m, r.length < 4611686018427387904) : Ev (fun k => spec_MatrixOk.f k m) (matB m) := by
  simp only [spec_MatrixOk.f, matB]
  by_cases h6 : m.length ≤ 6
  · rw [decide_eq_true h6, Bool.true_and]
    refine ev_ifn (by omega) ?_
    have main : ∀ (rest : List (List Int)) (i : Nat), i ≤ m.length → m.drop i = rest → Ev (fun k => spec_MatrixOk.l0 k m m (m.length : Int) (i : Int)) (rest.all (rowB m.length)) := by
      intro rest
      induction rest with
      | nil =>
        intro i hi hd
        have := drop_nil hd
        obtain rfl : i = m.length := by omega
        refine ev_succ ?_
        simp only [spec_MatrixOk.l0]
        exact ev_ifn (by omega) (Ev.now _)
      | cons a rest ih =>
        intro i hi hd
        have hlt := drop_lt hd
        have ha : a ∈ m := List.mem_of_mem_drop (by rw [hd]; exact List.mem_cons_self)
        have h1 := ih (i + 1) (by omega) (drop_next hd)
        rw [← wrap_succ (show i < 4611686018427387904 by omega)] at h1
        have h2 := specRow_ev m a (hr a ha) (i : Int) _ h1
        refine ev_succ ?_
        simp only [spec_MatrixOk.l0, rdL_drop hd]
        by_cases c : a.length = m.length
        · rw [show (a :: rest).all (rowB m.length) = (allB a (-500) 500 && rest.all (rowB m.length)) by simp [rowB, c]]
          exact ev_ift (by omega) (ev_ift (by omega) (ev_ift (by omega) (ev_ift (by omega) h2)))
        · rw [show (a :: rest).all (rowB m.length) = false by simp [rowB, c]]
          exact ev_ift (by omega) (ev_ift (by omega) (ev_ift (by omega) (ev_ifn (by omega) (Ev.now _))))
    exact main m 0 (by omega) rfl
  · rw [decide_eq_false h6, Bool.false_and]
    exact ev_ift (by omega) (Ev.now _)
theorem matB_facts {m : List (List Int)} (h : matB m = true) : m.length ≤ 6 ∧ ∀ r ∈ m, r.length = m.length ∧ ∀ x ∈ r, -500 ≤ x ∧ x ≤ 500 := by
  simp only [matB, rowB, allB, Bool.and_eq_true, decide_eq_true_eq, List.all_eq_true] at h
  exact h
end Go.Proofs.Ytplcclifmajcfaa.Pure
end
section
set_option linter.unusedVariables false
set_option linter.unusedSimpArgs false
namespace Go.Proofs.Ytplcclifmajcfaa.Pure
open Go.RowKit Go.Proofs.Ytplcclifmajcfaa.P Go.Proofs.YtplcclifmajcfaaW.PrintWords Go.Proofs.YtplcclifmajcfaaW.PrintLast Go.Proofs.YtplcclifmajcfaaW.PrintMore Go.Proofs.Ytplcclifmajcfaa.Base Go.Proofs.Ytplcclifmajcfaa.Det Go.Proofs.Ytplcclifmajcfaa.Bits Go.Proofs.Ytplcclifmajcfaa.Loops
def rowX (m : List (List Int)) (r c : Int) : Int := rd (rd_L4 m r) c
theorem specDet_ev (m : List (List Int)) (n : Nat) (hn : n ≤ 6) (hm : m.length = n) (hr : ∀ r : Int, 0 ≤ r → r < n → (rd_L4 m r).length = n) :
    ∀ (R C : List Int), (∀ r ∈ R, 0 ≤ r ∧ r < n) → (∀ c ∈ C, 0 ≤ c ∧ c < n) → R.length < 1000 → C.length < 1000 → Ev (fun k => spec_l03Det.f k m R C) (dF (rowX m) R C) := by
  intro R
  induction R with
  | nil =>
    intro C _ _ _ _
    refine ev_succ ?_
    simp only [spec_l03Det.f]
    exact ev_ift (by rfl) (Ev.now _)
  | cons r R ih =>
    intro C hR hC hl hc
    obtain ⟨r0, r1⟩ := hR r List.mem_cons_self
    have e0 : rd (r :: R) 0 = r := rfl
    have hrow := hr r r0 r1
    have main : ∀ (post pre : List Int) (s g : Int), pre ++ post = C → Ev (fun k => spec_l03Det.l0 k m (r :: R) C s g C (C.length : Int) (pre.length : Int)) (dLoop (rowX m r) (dF (rowX m) R) pre post s g) := by
      intro post
      induction post with
      | nil =>
        intro pre s g hp
        have : pre.length = C.length := by rw [← hp]; simp
        refine ev_succ ?_
        simp only [spec_l03Det.l0, dLoop]
        exact ev_ifn (by omega) (Ev.now _)
      | cons c post ihp =>
        intro pre s g hp
        have hlen : pre.length + (post.length + 1) = C.length := by rw [← hp]; simp
        have hd : C.drop pre.length = c :: post := by rw [← hp]; simp
        have ht : C.take pre.length = pre := by rw [← hp]; simp
        have hd1 : C.drop (pre.length + 1) = post := drop_next hd
        have hcm := hC c (by rw [← hp]; simp)
        have h1 := fun s' g' => ihp (pre ++ [c]) s' g' (by rw [← hp]; simp)
        simp only [List.length_append, List.length_cons, List.length_nil, Nat.zero_add] at h1
        refine ev_succ ?_
        simp only [spec_l03Det.l0, dLoop, e0, rd_drop hd, wrap_succ (show pre.length < 4611686018427387904 by omega), Int.toNat_natCast, ht, hd1, Option.bind_some, List.nil_append, List.drop_succ_cons, List.drop_zero]
        refine ev_ift (by omega) (ev_ift (by omega) (ev_ift (by omega) (ev_ift (by simp only [List.length_cons]; omega) (ev_ift (by omega) (ev_ift (by omega) (ev_ift (by omega) (ev_ift (by omega) ?_)))))))
        by_cases hx : rowX m r c = 0
        · rw [if_pos hx]
          exact ev_ift hx (h1 _ _)
        · rw [if_neg hx]
          refine ev_ifn hx (ev_ift (by omega) (ev_ift (by first | omega | (simp; omega) | simp) (ev_ift (by omega) (ev_ift (by omega) (ev_ift (by omega) (ev_ift (by simp only [List.length_cons]; omega) ?_))))))
          exact Ev.bind (ih (pre ++ post) (fun r' hr' => hR r' (List.mem_cons_of_mem _ hr')) (fun c' hc' => hC c' (by rw [← hp]; simp only [List.mem_append, List.mem_cons] at hc' ⊢; rcases hc' with h | h; exact Or.inl h; exact Or.inr (Or.inr h))) (by simp only [List.length_cons] at hl; omega) (by simp only [List.length_append]; omega)) (h1 _ _)
    refine ev_succ ?_
    simp only [spec_l03Det.f]
    refine ev_ifn (by simp only [List.length_cons]; omega) ?_
    exact main C [] 0 1 rfl
theorem implDet_ev (m : List (List Int)) (n : Nat) (hn : n ≤ 6) (hm : m.length = n) (hr : ∀ r : Int, 0 ≤ r → r < n → (rd_L4 m r).length = n) :
    ∀ (R : List Int) (S : Nat), (∀ r ∈ R, 0 ≤ r ∧ r < n) → S < 64 → R.length < 1000 → Ev (fun k => impl_determinant.f k m R (S : Int)) (dF (rowX m) R (colsR S 0 n)) := by
  intro R
  induction R with
  | nil =>
    intro S _ _ _
    refine ev_succ ?_
    simp only [impl_determinant.f]
    exact ev_ift (by rfl) (Ev.now _)
  | cons r R ih =>
    intro S hR hS hl
    obtain ⟨r0, r1⟩ := hR r List.mem_cons_self
    have e0 : rd (r :: R) 0 = r := rfl
    have hrow := hr r r0 r1
    have main : ∀ (d j : Nat) (s g : Int), j + d = n → Ev (fun k => impl_determinant.l0 k m (r :: R) (S : Int) s g (rd_L4 m r) ((rd_L4 m r).length : Int) (j : Int)) (dLoop (rowX m r) (dF (rowX m) R) (colsR S 0 j) (colsR S j d) s g) := by
      intro d
      induction d with
      | zero =>
        intro j s g hj
        refine ev_succ ?_
        simp only [impl_determinant.l0, colsR_zero, dLoop]
        exact ev_ifn (by omega) (Ev.now _)
      | succ d ihd =>
        intro j s g hj
        have h1 := fun s' g' => ihd (j + 1) s' g' (by omega)
        refine ev_succ ?_
        rw [colsR_succ]
        simp only [impl_determinant.l0, wrap_succ (show j < 4611686018427387904 by omega), bit_of S j (by omega) (by omega), andNot_clr S j hS (by omega), List.drop_succ_cons, List.drop_zero]
        refine ev_ift (by omega) (ev_ift (by omega) (ev_ift (by omega) ?_))
        rw [colsR_snoc] at h1
        by_cases hb : S.testBit j = true
        · rw [if_pos hb] at h1 ⊢
          rw [if_pos hb]
          refine ev_ifn (by omega) ?_
          rw [List.singleton_append]
          simp only [dLoop]
          by_cases hx : rowX m r (j : Int) = 0
          · rw [if_pos hx]
            exact ev_ift hx (h1 _ _)
          · rw [if_neg hx]
            refine ev_ifn hx (ev_ift (by simp only [List.length_cons]; omega) ?_)
            have h2 := ih (clr S j) (fun r' hr' => hR r' (List.mem_cons_of_mem _ hr')) (clr_lt S j hS) (by simp only [List.length_cons] at hl; omega)
            rw [show n = j + 1 + d by omega, colsR_clr S j d hS (by omega)] at h2
            exact Ev.bind h2 (h1 _ _)
        · rw [if_neg hb] at h1 ⊢
          rw [if_neg hb]
          rw [List.append_nil] at h1
          exact ev_ift rfl (h1 _ _)
    refine ev_succ ?_
    simp only [impl_determinant.f, e0]
    refine ev_ifn (by simp only [List.length_cons]; omega) (ev_ift (by simp only [List.length_cons]; omega) (ev_ift (by omega) (ev_ift (by omega) ?_)))
    exact main n 0 0 1 (by omega)
theorem bits_none {S i : Nat} (h : S / 2 ^ i = 0) (d : Nat) : colsR S i d = [] := by
  unfold colsR
  rw [List.map_eq_nil_iff, List.filter_eq_nil_iff]
  intro j hj
  rw [List.mem_range'_1] at hj
  have hlt : S < 2 ^ i := by
    rcases Nat.lt_or_ge S (2 ^ i) with h' | h'
    · exact h'
    · have := Nat.div_pos h' (Nat.two_pow_pos i); omega
  simp [Nat.testBit_lt_two_pow (Nat.lt_of_lt_of_le hlt (Nat.pow_le_pow_right (by decide) hj.1))]
theorem bitsOf_ev (S : Nat) (hS : S < 64) : Ev (fun k => impl_bitsOf.f k (S : Int)) (colsR S 0 6) := by
  have main : ∀ (d i : Nat), i + d = 6 → Ev (fun k => impl_bitsOf.l0 k (S : Int) (colsR S 0 i) (i : Int)) (colsR S 0 6) := by
    intro d
    induction d with
    | zero =>
      intro i hi
      obtain rfl : i = 6 := by omega
      refine ev_succ ?_
      simp only [impl_bitsOf.l0, shr_nat S 6 (by omega)]
      have : S / 2 ^ 6 = 0 := Nat.div_eq_of_lt (by simpa using hS)
      exact ev_ift (by omega) (ev_ifn (by rw [this]; omega) (Ev.now _))
    | succ d ih =>
      intro i hi
      have h1 := ih (i + 1) (by omega)
      have hl := colsR_len S 0 i
      refine ev_succ ?_
      simp only [impl_bitsOf.l0, bit_of S i (by omega) (by omega), wrap_succ (show i < 4611686018427387904 by omega)]
      rw [shr_nat S i (by omega)]
      refine ev_ift (by omega) ?_
      by_cases hz : S / 2 ^ i = 0
      · have e : colsR S 0 6 = colsR S 0 i := by
          have := colsR_split S i (6 - i)
          rw [bits_none hz, List.append_nil] at this
          rw [← this]; congr 1; omega
        rw [e]
        exact ev_ifn (by rw [hz]; omega) (Ev.now _)
      · refine ev_ift (Int.natCast_pos.2 (Nat.pos_of_ne_zero hz)) ?_
        rw [colsR_snoc] at h1
        by_cases hb : S.testBit i = true
        · rw [if_pos hb] at h1 ⊢
          exact ev_ift rfl (ev_ift (by omega) h1)
        · rw [if_neg hb] at h1 ⊢
          rw [List.append_nil] at h1
          exact ev_ifn (by omega) h1
  exact main 6 0 (by omega)
theorem full_bits (n : Nat) (hn : n ≤ 6) : colsR (2 ^ n - 1) 0 6 = (List.range n).map (fun i : Nat => (i : Int)) ∧ colsR (2 ^ n - 1) 0 n = (List.range n).map (fun i : Nat => (i : Int)) ∧ 2 ^ n - 1 < 64 := by
  have h : ∀ n : Fin 7, colsR (2 ^ n.val - 1) 0 6 = (List.range n.val).map (fun i : Nat => (i : Int)) ∧ colsR (2 ^ n.val - 1) 0 n.val = (List.range n.val).map (fun i : Nat => (i : Int)) ∧ 2 ^ n.val - 1 < 64 := by decide +kernel
  exact h ⟨n, by omega⟩
theorem shl_full (n : Nat) (hn : n ≤ 6) : wrap64 (shl .i64 1 (n : Int) - 1) = ((2 ^ n - 1 : Nat) : Int) := by
  rw [shl_nat n (by omega)]
  have : 2 ^ n ≤ 64 := by have := Nat.pow_le_pow_right (n := 2) (by decide) hn; simpa using this
  have hp := Nat.two_pow_pos n
  unfold wrap64; omega
theorem rowLen {m : List (List Int)} (h : matB m = true) (r : Int) (h0 : 0 ≤ r) (h1 : r < m.length) : (rd_L4 m r).length = m.length := by
  obtain ⟨_, hr⟩ := matB_facts h
  obtain ⟨i, rfl⟩ : ∃ i : Nat, r = i := ⟨r.toNat, by omega⟩
  have hi : i < m.length := by omega
  have : rd_L4 m (i : Int) = m[i] := by
    unfold rd_L4
    rw [Int.toNat_natCast, List.getD_eq_getElem?_getD, List.getElem?_eq_getElem hi]; rfl
  rw [this]
  exact (hr _ (List.getElem_mem hi)).1
theorem specAll_ev (n : Nat) (hn : n ≤ 6) : Ev (fun k => spec_l03All.f k (n : Int)) ((List.range n).map (fun i : Nat => (i : Int))) := by
  simp only [spec_l03All.f]
  refine range_build n (fun i : Nat => (i : Int)) (fun k x i => spec_l03All.l0 k (n : Int) x i) (fun x => ev_succ ?_) (fun x i hi hx r h => ev_succ ?_)
  · simp only [spec_l03All.l0]
    exact ev_ifn (by omega) (Ev.now _)
  · simp only [spec_l03All.l0, wrap_succ (show i < 4611686018427387904 by omega)]
    exact ev_ift (by omega) (ev_ift (by omega) h)
theorem determinant_both (m : List (List Int)) (hl : m.length < 4611686018427387904) (hr : ∀ r ∈ m, r.length < 4611686018427387904) : ∃ v : Int, Ev (fun k => impl_Determinant.f k m) v ∧ Ev (fun k => spec_Determinant.f k m) v ∧ True := by
  have h1 := implMat_ev m hl hr
  have h2 := specMat_ev m hl hr
  simp only [impl_Determinant.f, spec_Determinant.f]
  cases e : matB m with
  | false =>
    rw [e] at h1 h2
    exact ⟨0, Ev.bind h1 (ev_iff (Ev.now _)), Ev.bind h2 (ev_iff (Ev.now _)), trivial⟩
  | true =>
    rw [e] at h1 h2
    obtain ⟨h6, _⟩ := matB_facts e
    obtain ⟨f1, f2, f3⟩ := full_bits m.length h6
    have hb := bitsOf_ev (2 ^ m.length - 1) f3
    rw [f1] at hb
    have hmem : ∀ r ∈ (List.range m.length).map (fun i : Nat => (i : Int)), 0 ≤ r ∧ r < (m.length : Int) := by
      intro r hr
      rw [List.mem_map] at hr
      obtain ⟨i, hi, rfl⟩ := hr
      rw [List.mem_range] at hi
      omega
    have hi := implDet_ev m m.length h6 rfl (fun r a b => rowLen e r a b) ((List.range m.length).map (fun i : Nat => (i : Int))) (2 ^ m.length - 1) hmem f3 (by simp; omega)
    rw [f2] at hi
    have hs := specDet_ev m m.length h6 rfl (fun r a b => rowLen e r a b) ((List.range m.length).map (fun i : Nat => (i : Int))) ((List.range m.length).map (fun i : Nat => (i : Int))) hmem hmem (by simp; omega) (by simp; omega)
    have ha := specAll_ev m.length h6
    rw [shl_full m.length h6]
    exact ⟨_, Ev.bind h1 (ev_ift rfl (Ev.bind hb (Ev.bind hi (Ev.now _)))), Ev.bind h2 (ev_ift rfl (Ev.bind ha (Ev.bind ha (Ev.bind hs (Ev.now _))))), trivial⟩
end Go.Proofs.Ytplcclifmajcfaa.Pure
end
section
set_option linter.unusedVariables false
set_option linter.unusedSimpArgs false
namespace Go.Proofs.Ytplcclifmajcfaa.Pure
open Go.RowKit Go.Proofs.Ytplcclifmajcfaa.P Go.Proofs.YtplcclifmajcfaaW.PrintWords Go.Proofs.YtplcclifmajcfaaW.PrintLast Go.Proofs.YtplcclifmajcfaaW.PrintMore Go.Proofs.Ytplcclifmajcfaa.Base Go.Proofs.Ytplcclifmajcfaa.Loops Go.Proofs.Ytplcclifmajcfaa.Bits Go.Proofs.Ytplcclifmajcfaa.Det
theorem countTrees_both (n : Int) (es : List S57) (hl : es.length < 4611686018427387904) :
    ∃ v : Int, Ev (fun k => impl_CountTrees.f k n es) v ∧ Ev (fun k => spec_CountTrees.f k n es) v ∧ True := by
  obtain ⟨b, h1, h2, hb⟩ := graphOk_both n es hl
  obtain ⟨r, r1, r2, ⟨r3, r4⟩, _⟩ := reducedLap_both n es 0 hl
  obtain ⟨v, v1, v2, _⟩ := determinant_both r (by omega) (fun x h => by have := r4 x h; omega)
  have tt : true = true := rfl
  simp only [impl_CountTrees.f, spec_CountTrees.f]
  cases b with
  | false => exact ⟨0, Ev.bind h1 (ev_iff (Ev.now _)), Ev.bind h2 (ev_iff (Ev.now _)), trivial⟩
  | true => exact ⟨v, Ev.bind h1 (ev_ift tt (Ev.bind r1 (Ev.bind v1 (Ev.now _)))), Ev.bind h2 (ev_ift tt (Ev.bind r2 (Ev.bind v2 (Ev.now _)))), trivial⟩
theorem groupOrder_both (n : Int) (es : List S57) (hl : es.length < 4611686018427387904) :
    ∃ v : Int, Ev (fun k => impl_GroupOrder.f k n es) v ∧ Ev (fun k => spec_GroupOrder.f k n es) v ∧ True := by
  obtain ⟨v, v1, v2, _⟩ := countTrees_both n es hl
  simp only [impl_GroupOrder.f, spec_GroupOrder.f]
  exact ⟨v, Ev.bind v1 (Ev.now _), Ev.bind v2 (Ev.now _), trivial⟩
end Go.Proofs.Ytplcclifmajcfaa.Pure
end
