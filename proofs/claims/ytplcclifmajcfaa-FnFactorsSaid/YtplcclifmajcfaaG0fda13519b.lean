/- Functions of the program as plain Lean functions and that the machine's calls answer as they do, the words of the print that these use, lemmas and plain proofs of laws. Put together by a program of this work that leaves out what nothing uses; Lean checks it. -/
import Derived.Test.YtplcclifmajcfaaG93f7dcd6b6
section
namespace Go.Proofs.Ytplcclifmajcfaa.P
open Go.RowKit Go.Proofs.YtplcclifmajcfaaW.PrintWords Go.Proofs.YtplcclifmajcfaaW.PrintLast Go.Proofs.YtplcclifmajcfaaW.PrintMore
attribute [local go_sem] max2_int min2_int max_two min_two max_three min_three max_four min_four
set_option linter.unusedVariables false
set_option linter.unusedSimpArgs false
def impl_MatrixOk.l0 : Nat → List (List Int) → List (List Int) → Int → Int → Option (Bool)
 | 0, _, _, _, _ => none
 | k + 1, x0, x8, x9, x10 => if x10 < x9 then (if 0 ≤ x10 then (if x10 < (x8.length : Int) then (if ((rd_L4 x8 x10).length : Int) = (x0.length : Int) then ((impl_allWithin.f k (rd_L4 x8 x10) (-500) 500).bind fun t442 => (if t442 = true then (impl_MatrixOk.l0 k x0 x8 x9 (wrap64 (x10 + 1))) else (some false))) else (some false)) else (none)) else (none)) else (some true)
def impl_MatrixOk.f (k : Nat) (l0 : List (List Int)) : Option (Bool) := if (l0.length : Int) > 6 then (some false) else (impl_MatrixOk.l0 k l0 l0 (l0.length : Int) 0)
set_option maxHeartbeats 8000000 in
set_option maxRecDepth 100000 in
theorem impl_MatrixOk.calls (k : Nat) (A0 : Option Addr) (c0 : Nat) (l0 : List (List Int)) (r : Bool) (w : World) (hr0 : Kd.C (Kd.slice 3 (Kd.int .i64)) w A0 l0.length l0) (hc0 : l0.length ≤ c0) (h : impl_MatrixOk.f k l0 = some r) :
  Calls Try.prog 59 #[.slice A0 l0.length c0] w fun e w' => e = .returned (.bool r) ∧ Drawn0 w w' := by
 have HR0 := Aside0.mk hr0
 have HC0 := Aside0.mk hc0
 clear hr0 hc0
 have H : (if (l0.length : Int) > 6 then (some false) else (impl_MatrixOk.l0 k l0 l0 (l0.length : Int) 0)) = some r := h
 clear h
 by_cases c2 : (l0.length : Int) > 6
 ·rw [if_pos c2] at H
  have c2b0 : decide (6 < (l0.length : Int)) = true := decide_eq_true c2
  have c2b1 : decide (6 < l0.length) = true := decide_eq_true (by omega)
  clear c2
  obtain rfl := Option.some.inj H
  go_enter Try.func59, Try.ntmps59
  go_wp2
  go_ret
  exact ⟨eqA, by repeat (first | exact Drawn0.refl _ | apply Drawn0.step)⟩
 rw [if_neg c2] at H
 have c2b0 : decide (6 < (l0.length : Int)) = false := decide_eq_false c2
 have c2b1 : decide (6 < l0.length) = false := decide_eq_false (by omega)
 clear c2
 have H' := Aside0.mk H
 clear H
 go_enter Try.func59, Try.ntmps59
 go_wp2
 go_loopg [10] k (fun kq v10 w' => ∃ (x10_1 : Int), v10 = .int .i64 x10_1 ∧ Aside0 (impl_MatrixOk.l0 kq l0 l0 (l0.length : Int) x10_1 = some r) ∧ Aside0 (kq ≤ k) ∧ Drawn0 w w')
 case atStart => exact ⟨(0), eqA, H', ⟨Nat.le_refl _⟩, by repeat (first | exact Drawn0.refl _ | apply Drawn0.step)⟩
 case round =>
  clear H'
  try clear c2
  try clear c2b0
  try clear c2b1
  obtain ⟨x10_1, rfl, HA, HK1, ⟨m1, rfl⟩⟩ := hrel
  cases gk with
  | zero => exact absurd HA.out (by simp [impl_MatrixOk.l0])
  | succ k1 =>
   have H := HA.out
   clear HA
   simp only [impl_MatrixOk.l0] at H
   by_cases c3 : x10_1 < (l0.length : Int)
   ·rw [if_pos c3] at H
    have c3b0 : decide (x10_1 < (l0.length : Int)) = true := decide_eq_true c3
    clear c3
    by_cases c4 : 0 ≤ x10_1
    ·rw [if_pos c4] at H
     have c4b0 : decide (0 ≤ x10_1) = true := decide_eq_true c4
     clear c4
     by_cases c5 : x10_1 < (l0.length : Int)
     ·rw [if_pos c5] at H
      have c5b0 : decide (x10_1 < (l0.length : Int)) = true := decide_eq_true c5
      clear c5
      by_cases c6 : ((rd_L4 l0 x10_1).length : Int) = (l0.length : Int)
      ·rw [if_pos c6] at H
       have c6b0 : (((rd_L4 l0 x10_1).length : Int) == (l0.length : Int)) = true := beq_iff_eq.mpr c6
       have c6b1 : (((rd_L4 l0 x10_1).length : Int) != (l0.length : Int)) = false := bne_eq_false_iff_eq.mpr c6
       have c6b2 : ((rd_L4 l0 x10_1).length == l0.length) = true := by first | simpa using c6 | (simp at c6 ⊢; omega)
       clear c6
       replace H := Option.bind_eq_some_iff.mp H
       obtain ⟨t442, A70, H⟩ := H
       replace H : (if t442 = true then (impl_MatrixOk.l0 k1 l0 l0 (l0.length : Int) (wrap64 (x10_1 + 1))) else (some false)) = some r := H
       have A7 := Aside0.mk A70
       clear A70
       by_cases c8 : t442 = true
       ·subst c8
        have H1 : (impl_MatrixOk.l0 k1 l0 l0 (l0.length : Int) (wrap64 (x10_1 + 1))) = some r := by rw [if_pos rfl] at H; exact H
        clear H
        have H := H1
        clear H1
        have H' := Aside0.mk H
        clear H
        have p441 : 0 ≤ (x10_1 : Int) := ofA
        have q441 : x10_1 < (l0.length : Int) := ofA
        obtain ⟨ad441, A441_0, c441_0, e441, hx441_0, hl441_0, hi441_0⟩ := at_L4 HR0.out x10_1 p441 q441
        cases e441
        have HR441_0 := Aside0.mk hi441_0
        have HC441_0 := Aside0.mk hl441_0
        clear hi441_0 hl441_0
        replace p441 := eq_true p441
        replace q441 := eq_true q441
        go_wp2_with (first | (go_at_call 85; (with_reducible refine (impl_allWithin.calls k1 _ _ (rd_L4 l0 x10_1) (-500) 500 true _ ?side1 ?side2 A7.out).mono ?_); (case side1 => exact Cz (HR441_0.out)); (case side2 => exact HC441_0.out); rintro e w' ⟨rfl, ⟨nd, rfl⟩⟩))
        go_roundg k1
        case measure => have := HK1.out; omega
        case rel => exact ⟨(wrap64 (x10_1 + 1)), eqA, H', ⟨by have := HK1.out; omega⟩, by repeat (first | exact Drawn0.refl _ | apply Drawn0.step)⟩
       replace c8 := Bool.eq_false_iff.mpr c8
       subst c8
       have H1 : (some false) = some r := by rw [if_neg (show ¬ (false = true) by decide)] at H; exact H
       clear H
       have H := H1
       clear H1
       obtain rfl := Option.some.inj H
       have p441 : 0 ≤ (x10_1 : Int) := ofA
       have q441 : x10_1 < (l0.length : Int) := ofA
       obtain ⟨ad441, A441_0, c441_0, e441, hx441_0, hl441_0, hi441_0⟩ := at_L4 HR0.out x10_1 p441 q441
       cases e441
       have HR441_0 := Aside0.mk hi441_0
       have HC441_0 := Aside0.mk hl441_0
       clear hi441_0 hl441_0
       replace p441 := eq_true p441
       replace q441 := eq_true q441
       go_wp2_with (first | (go_at_call 85; (with_reducible refine (impl_allWithin.calls k1 _ _ (rd_L4 l0 x10_1) (-500) 500 false _ ?side1 ?side2 A7.out).mono ?_); (case side1 => exact Cz (HR441_0.out)); (case side2 => exact HC441_0.out); rintro e w' ⟨rfl, ⟨nd, rfl⟩⟩))
       go_ret
       exact ⟨eqA, by repeat (first | exact Drawn0.refl _ | apply Drawn0.step)⟩
      rw [if_neg c6] at H
      have c6b0 : (((rd_L4 l0 x10_1).length : Int) == (l0.length : Int)) = false := beq_eq_false_iff_ne.mpr c6
      have c6b1 : (((rd_L4 l0 x10_1).length : Int) != (l0.length : Int)) = true := bne_iff_ne.mpr c6
      have c6b2 : ((rd_L4 l0 x10_1).length == l0.length) = false := by first | simpa using c6 | (simp at c6 ⊢; omega)
      obtain rfl := Option.some.inj H
      have p441 : 0 ≤ (x10_1 : Int) := ofA
      have q441 : x10_1 < (l0.length : Int) := ofA
      obtain ⟨ad441, A441_0, c441_0, e441, hx441_0, hl441_0, hi441_0⟩ := at_L4 HR0.out x10_1 p441 q441
      cases e441
      have HR441_0 := Aside0.mk hi441_0
      have HC441_0 := Aside0.mk hl441_0
      clear hi441_0 hl441_0
      replace p441 := eq_true p441
      replace q441 := eq_true q441
      go_wp2
      go_ret
      exact ⟨eqA, by repeat (first | exact Drawn0.refl _ | apply Drawn0.step)⟩
     rw [if_neg c5] at H
     exact absurd H (by simp)
    rw [if_neg c4] at H
    exact absurd H (by simp)
   rw [if_neg c3] at H
   have c3b0 : decide (x10_1 < (l0.length : Int)) = false := decide_eq_false c3
   clear c3
   obtain rfl := Option.some.inj H
   go_wp2
   go_ret
   exact ⟨eqA, by repeat (first | exact Drawn0.refl _ | apply Drawn0.step)⟩
def impl_bitsOf.l0 : Nat → Int → List Int → Int → Option (List Int)
 | 0, _, _, _ => none
 | k + 1, x0, x3, x4 => if 0 ≤ x4 then (if (shr .i64 x0 x4) > 0 then (if (Go.bits .and .i64 (shr .i64 x0 x4) 1) = 1 then (if x3.length < 17592186044416 then (impl_bitsOf.l0 k x0 (x3 ++ [x4]) (wrap64 (x4 + 1))) else (none)) else (impl_bitsOf.l0 k x0 x3 (wrap64 (x4 + 1)))) else (some x3)) else (none)
def impl_bitsOf.f (k : Nat) (a0 : Int) : Option (List Int) := impl_bitsOf.l0 k a0 ([] : List Int) 0
set_option maxHeartbeats 8000000 in
set_option maxRecDepth 100000 in
theorem impl_bitsOf.calls (k : Nat) (a0 : Int) (r : List Int) (w : World) (h : impl_bitsOf.f k a0 = some r) :
  Calls Try.prog 60 #[.int .i64 a0] w fun e w' => ∃ v0_ : Value, e = .returned (v0_) ∧ Kd.R (Kd.int .i64) 3 w' w.heap.size (fun _ => True) v0_ r ∧ Below w.heap.size w w' := by
 have HB := Aside0.mk (Below.refl w.heap.size w)
 have H : (impl_bitsOf.l0 k a0 ([] : List Int) 0) = some r := h
 clear h
 have H' := Aside0.mk H
 clear H
 go_enter Try.func60, Try.ntmps60
 go_wp2
 go_loopg [3, 4] k (fun kq v3 v4 w' => ∃ (x3_1 : List Int) (x4_1 : Int), v4 = .int .i64 x4_1 ∧ Aside0 (impl_bitsOf.l0 kq a0 x3_1 x4_1 = some r) ∧ Aside0 (kq ≤ k) ∧ Aside0 (Kd.R (Kd.int .i64) 3 w' w.heap.size (fun _ => True) v3 x3_1) ∧ Aside0 (Below w.heap.size w w'))
 case atStart => exact ⟨(([] : List Int)), (0), eqA, H', ⟨Nat.le_refl _⟩, ⟨by first | exact Kd.R_nil _ _ _ _ _ | exact Kd.N_nil _ _ _ _ _ | exact Kd.V_nil _ _ _ _ _ | exact Kd.Q_nil _ _ _ _ _ | exact Kd.S_nil _ _ _ _ _⟩, ⟨by exact Lz HB⟩⟩
 case round =>
  clear H'
  obtain ⟨x3_1, x4_1, rfl, HA, HK1, HO_3, HB⟩ := hrel
  cases gk with
  | zero => exact absurd HA.out (by simp [impl_bitsOf.l0])
  | succ k1 =>
   have H := HA.out
   clear HA
   simp only [impl_bitsOf.l0] at H
   by_cases c2 : 0 ≤ x4_1
   ·rw [if_pos c2] at H
    have c2b0 := eq_true c2
    have c2b1 : decide (0 ≤ x4_1) = true := decide_eq_true c2
    clear c2
    obtain ⟨ji3, hji3⟩ : ∃ j_ : Int, (shr .i64 a0 x4_1) = j_ := ⟨_, rfl⟩
    replace H : (if (ji3) > 0 then (if (Go.bits .and .i64 (ji3) 1) = 1 then (if x3_1.length < 17592186044416 then (impl_bitsOf.l0 k1 a0 (x3_1 ++ [x4_1]) (wrap64 (x4_1 + 1))) else (none)) else (impl_bitsOf.l0 k1 a0 x3_1 (wrap64 (x4_1 + 1)))) else (some x3_1)) = some r := by first | (rw [hji3] at H; exact H) | (simp only [hji3] at H ⊢; exact H)
    have hji3_ : (a0 / 2 ^ min x4_1.toNat 64) = ji3 := hji3
    have hji3z : x4_1 ≤ 64 → (a0 / 2 ^ x4_1.toNat) = ji3 := shr_small hji3
    by_cases c4 : (ji3) > 0
    ·rw [if_pos c4] at H
     have c4b0 : decide (0 < (ji3)) = true := decide_eq_true c4
     clear c4
     have c5b0 := eq_true (ofA : 0 ≤ x4_1)
     by_cases c6 : (Go.bits .and .i64 (ji3) 1) = 1
     ·rw [if_pos c6] at H
      have c6b0 : ((Go.bits .and .i64 (ji3) 1) == 1) = true := beq_iff_eq.mpr c6
      have c6b1 : ((Go.bits .and .i64 (ji3) 1) != 1) = false := bne_eq_false_iff_eq.mpr c6
      clear c6
      by_cases c7 : x3_1.length < 17592186044416
      ·rw [if_pos c7] at H
       have LMc7 := Aside0.mk c7
       clear c7
       obtain ⟨y443, hy443⟩ : ∃ y_ : List Int, y_ = (x3_1 ++ [x4_1]) := ⟨_, rfl⟩
       replace H : (impl_bitsOf.l0 k1 a0 y443 (wrap64 (x4_1 + 1))) = some r := by first | (rw [hy443]; with_reducible exact H) | (have H2_ := (Option.bind_some _ _).symm.trans H; rw [hy443]; with_reducible exact H2_) | (have H2_ := (Option.bind_some _ _).symm.trans H; with_reducible exact H2_) | with_reducible exact H | (rw [hy443]; exact H) | exact H
       have Ny443 := Aside0.mk hy443
       clear hy443
       have H' := Aside0.mk H
       clear H
       go_wp2_with (first | ((with_reducible refine gate_builtin (b := .append) (xs := #[.tmp 16, .tmp 18]) rfl ?_); at_builtin; refine Kd.R_append (Kd.int .i64) (w0 := w) w.heap.size rfl (.tmp 16) (.tmp 18) 37 3 (.int .i64 0) 8 rfl Try.underlying37 info3 rfl (by decide) (by omega) u3 x3_1 x4_1 [.int .i64 x4_1] (fun _ => True) (fun _ => False) rfl rfl ?aP (fun _ hk => hk.elim) ?aF ?aO ?aB ?aS ?aL ?_; (case aP => exact rfl); (case aB => exact (Lz HB)); (case aF => exact (fun _ _ => trivial)); (case aO => exact (Rz HO_3)); (case aS => exact (below_size (Lz HB))); (case aL => have := LMc7.out; omega); intro v444 w8 ho hb hg hat; rw [← Ny443.out] at ho; replace HB := Aside0.mk (hb); have HO445 := Aside0.mk (ho); clear HO_3; clear ho hb hg hat))
       go_roundg k1
       case measure => have := HK1.out; omega
       case rel => exact ⟨(y443), (wrap64 (x4_1 + 1)), eqA, H', ⟨by have := HK1.out; omega⟩, ⟨by exact Rz HO445⟩, ⟨by exact Lz HB⟩⟩
      rw [if_neg c7] at H
      exact absurd H (by simp)
     rw [if_neg c6] at H
     have c6b0 : ((Go.bits .and .i64 (ji3) 1) == 1) = false := beq_eq_false_iff_ne.mpr c6
     have c6b1 : ((Go.bits .and .i64 (ji3) 1) != 1) = true := bne_iff_ne.mpr c6
     have H' := Aside0.mk H
     clear H
     go_wp2
     go_roundg k1
     case measure => have := HK1.out; omega
     case rel => exact ⟨(x3_1), (wrap64 (x4_1 + 1)), eqA, H', ⟨by have := HK1.out; omega⟩, ⟨by exact Rz HO_3⟩, ⟨by exact Lz HB⟩⟩
    rw [if_neg c4] at H
    have c4b0 : decide (0 < (ji3)) = false := decide_eq_false c4
    clear c4
    obtain rfl := Option.some.inj H
    go_wp2
    go_ret
    exact ⟨_, by first | rfl | (simp [errW_none, errW_some] <;> rfl) | (simp only [← hji3]; first | rfl | (simp [errW_none, errW_some] <;> rfl)) | (simp [*, errW_none, errW_some] <;> rfl), by exact Rz HO_3, by exact Lz HB⟩
   rw [if_neg c2] at H
   exact absurd H (by simp)
mutual
def impl_determinant.l0 : Nat → List (List Int) → List Int → Int → Int → Int → List Int → Int → Int → Option (Int)
 | 0, _, _, _, _, _, _, _, _ => none
 | k + 1, x0, x1, x2, x7, x8, x19, x20, x21 => if x21 < x20 then (if 0 ≤ x21 then (if x21 < (x19.length : Int) then (if (Go.bits .and .i64 (shr .i64 x2 x21) 1) = 0 then (impl_determinant.l0 k x0 x1 x2 x7 x8 x19 x20 (wrap64 (x21 + 1))) else (if (rd x19 x21) = 0 then (impl_determinant.l0 k x0 x1 x2 x7 (wrap64 (-x8)) x19 x20 (wrap64 (x21 + 1))) else (if 1 ≤ (x1.length : Int) then ((impl_determinant.f k x0 (x1.drop 1) (Go.bits .andNot .i64 x2 (shl .i64 1 x21))).bind fun t450 => (impl_determinant.l0 k x0 x1 x2 (wrap64 (x7 + (wrap64 ((wrap64 (x8 * (rd x19 x21))) * t450)))) (wrap64 (-x8)) x19 x20 (wrap64 (x21 + 1)))) else (none)))) else (none)) else (none)) else (some x7)
def impl_determinant.f : Nat → List (List Int) → List Int → Int → Option (Int)
 | 0, _, _, _ => none
 | k + 1, l0, l1, a2 => if (l1.length : Int) = 0 then (some 1) else (if 0 < (l1.length : Int) then (if 0 ≤ (rd l1 0) then (if (rd l1 0) < (l0.length : Int) then (impl_determinant.l0 k l0 l1 a2 0 1 (rd_L4 l0 (rd l1 0)) ((rd_L4 l0 (rd l1 0)).length : Int) 0) else (none)) else (none)) else (none))
end
def impl_determinant.T9 : Bool × List (List Nat × List Nat) := (true, [([], []), ([], []), ([], []), ([1, 2], [1, 2]), ([], []), ([], []), ([5], [5]), ([], []), ([], []), ([8], [8]), ([7, 9], [7, 9]), ([4, 6, 10], [4, 6, 10]), ([3, 11], [3, 11]), ([0, 12], [0, 12]), ([13, 11, 0, 1, 2, 3, 4, 5, 6, 7, 8, 9, 10, 11, 12, 13], [0, 13])])
def impl_determinant.B9 : List Nat := [0, 0, 0, 6, 0, 0, 32, 0, 0, 256, 896, 2032, 4094, 8191, 16383]
theorem impl_determinant.tab9 : rtab .any (opsOf Try.f62 9) = impl_determinant.T9 := by kernel_rfl
theorem impl_determinant.bits9 : waitsOk impl_determinant.T9.2 impl_determinant.B9 = true := by kernel_rfl
set_option maxHeartbeats 8000000 in
set_option maxRecDepth 100000 in
theorem impl_determinant.calls (k : Nat) : ∀ (A0 : Option Addr) (c0 : Nat) (l0 : List (List Int)) (A1 : Option Addr) (c1 : Nat) (l1 : List Int) (a2 : Int) (r : Int) (w : World) (hr0 : Kd.C (Kd.slice 3 (Kd.int .i64)) w A0 l0.length l0) (hc0 : l0.length ≤ c0) (hr1 : Kd.C (Kd.int .i64) w A1 l1.length l1) (hc1 : l1.length ≤ c1) (h : impl_determinant.f k l0 l1 a2 = some r),
  Calls Try.prog 62 #[.slice A0 l0.length c0, .slice A1 l1.length c1, .int .i64 a2] w fun e w' => e = .returned (.int .i64 r) ∧ Below w.heap.size w w' := by
 induction k using Nat.strongRecOn with
 | _ k ih =>
 intro A0 c0 l0 A1 c1 l1 a2 r w hr0 hc0 hr1 hc1 h
 cases k with
 | zero => exact absurd h (by simp [impl_determinant.f])
 | succ k =>
 simp only [impl_determinant.f] at h
 have HR0 := Aside0.mk hr0
 have HC0 := Aside0.mk hc0
 clear hr0 hc0
 have HR1 := Aside0.mk hr1
 have HC1 := Aside0.mk hc1
 clear hr1 hc1
 have HB := Aside0.mk (Below.refl w.heap.size w)
 have H : (if (l1.length : Int) = 0 then (some 1) else (if 0 < (l1.length : Int) then (if 0 ≤ (rd l1 0) then (if (rd l1 0) < (l0.length : Int) then (impl_determinant.l0 k l0 l1 a2 0 1 (rd_L4 l0 (rd l1 0)) ((rd_L4 l0 (rd l1 0)).length : Int) 0) else (none)) else (none)) else (none))) = some r := h
 clear h
 by_cases c4 : (l1.length : Int) = 0
 ·rw [if_pos c4] at H
  have c4b0 : ((l1.length : Int) == 0) = true := beq_iff_eq.mpr c4
  have c4b1 : ((l1.length : Int) != 0) = false := bne_eq_false_iff_eq.mpr c4
  clear c4
  obtain rfl := Option.some.inj H
  go_enter Try.func62, Try.ntmps62
  go_wp2
  go_ret
  exact ⟨by first | rfl | (simp [errW_none, errW_some] <;> rfl) | (simp [*, errW_none, errW_some] <;> rfl), by exact Lz HB⟩
 rw [if_neg c4] at H
 have c4b0 : ((l1.length : Int) == 0) = false := beq_eq_false_iff_ne.mpr c4
 have c4b1 : ((l1.length : Int) != 0) = true := bne_iff_ne.mpr c4
 have c4b2 : ¬ (l1 = []) := fun h_ => c4 (by rw [h_]; rfl)
 by_cases c5 : 0 < (l1.length : Int)
 ·rw [if_pos c5] at H
  have c5b0 : decide (0 < (l1.length : Int)) = true := decide_eq_true c5
  have c5b1 : decide (0 < l1.length) = true := decide_eq_true (by omega)
  clear c5
  by_cases c6 : 0 ≤ (rd l1 0)
  ·rw [if_pos c6] at H
   have c6b0 : decide (0 ≤ (rd l1 0)) = true := decide_eq_true c6
   clear c6
   by_cases c7 : (rd l1 0) < (l0.length : Int)
   ·rw [if_pos c7] at H
    have c7b0 : decide ((rd l1 0) < (l0.length : Int)) = true := decide_eq_true c7
    clear c7
    have H' := Aside0.mk H
    clear H
    have p446 : 0 ≤ (0 : Int) := (by omega)
    have q446 : 0 < (l1.length : Int) := ofA
    obtain ⟨ad446, e446, hx446_0⟩ := Kd.at_int HR1.out 0 p446 q446
    cases e446
    have qi446 : (0 < l1.length) = True := eq_true (by omega)
    (try rw [show ((0 : Int)).toNat = 0 from rfl] at hx446_0)
    (try rw [Addr.add_zero'] at hx446_0)
    replace p446 := eq_true p446
    replace q446 := eq_true q446
    have p447 : 0 ≤ ((rd l1 0) : Int) := ofA
    have q447 : (rd l1 0) < (l0.length : Int) := ofA
    obtain ⟨ad447, A447_0, c447_0, e447, hx447_0, hl447_0, hi447_0⟩ := at_L4 HR0.out (rd l1 0) p447 q447
    cases e447
    have HR447_0 := Aside0.mk hi447_0
    have HC447_0 := Aside0.mk hl447_0
    clear hi447_0 hl447_0
    replace p447 := eq_true p447
    replace q447 := eq_true q447
    go_enter Try.func62, Try.ntmps62
    go_wp2
    go_loopg [7, 8, 21] k (fun kq v7 v8 v21 w' => ∃ (x7_1 : Int) (x8_1 : Int) (x21_1 : Int), v7 = .int .i64 x7_1 ∧ v8 = .int .i64 x8_1 ∧ v21 = .int .i64 x21_1 ∧ Aside0 (impl_determinant.l0 kq l0 l1 a2 x7_1 x8_1 (rd_L4 l0 (rd l1 0)) ((rd_L4 l0 (rd l1 0)).length : Int) x21_1 = some r) ∧ Aside0 (kq ≤ k) ∧ Aside0 (Below w.heap.size w w'))
    case atStart => exact ⟨(0), (1), (0), eqA, eqA, eqA, H', ⟨Nat.le_refl _⟩, ⟨by exact Lz HB⟩⟩
    case round =>
     clear H'
     try clear c1
     try clear c4
     try clear c4b0
     try clear c4b1
     try clear c4b2
     try clear c5
     try clear c5b0
     try clear c5b1
     try clear c6
     try clear c6b0
     try clear c7
     try clear c7b0
     try clear p446
     try clear p447
     try clear q446
     try clear q447
     obtain ⟨x7_1, x8_1, x21_1, rfl, rfl, rfl, HA, HK1, HB⟩ := hrel
     cases gk with
     | zero => exact absurd HA.out (by simp [impl_determinant.l0])
     | succ k1 =>
      have H := HA.out
      clear HA
      simp only [impl_determinant.l0] at H
      by_cases c8 : x21_1 < ((rd_L4 l0 (rd l1 0)).length : Int)
      ·rw [if_pos c8] at H
       have c8b0 : decide (x21_1 < ((rd_L4 l0 (rd l1 0)).length : Int)) = true := decide_eq_true c8
       clear c8
       by_cases c9 : 0 ≤ x21_1
       ·rw [if_pos c9] at H
        have c9b0 : decide (0 ≤ x21_1) = true := decide_eq_true c9
        clear c9
        by_cases c10 : x21_1 < ((rd_L4 l0 (rd l1 0)).length : Int)
        ·rw [if_pos c10] at H
         have c10b0 : decide (x21_1 < ((rd_L4 l0 (rd l1 0)).length : Int)) = true := decide_eq_true c10
         clear c10
         have c11b0 := eq_true (ofA : 0 ≤ x21_1)
         obtain ⟨ji12, hji12⟩ : ∃ j_ : Int, (shr .i64 a2 x21_1) = j_ := ⟨_, rfl⟩
         replace H : (if (Go.bits .and .i64 (ji12) 1) = 0 then (impl_determinant.l0 k1 l0 l1 a2 x7_1 x8_1 (rd_L4 l0 (rd l1 0)) ((rd_L4 l0 (rd l1 0)).length : Int) (wrap64 (x21_1 + 1))) else (if (rd (rd_L4 l0 (rd l1 0)) x21_1) = 0 then (impl_determinant.l0 k1 l0 l1 a2 x7_1 (wrap64 (-x8_1)) (rd_L4 l0 (rd l1 0)) ((rd_L4 l0 (rd l1 0)).length : Int) (wrap64 (x21_1 + 1))) else (if 1 ≤ (l1.length : Int) then ((impl_determinant.f k1 l0 (l1.drop 1) (Go.bits .andNot .i64 a2 (shl .i64 1 x21_1))).bind fun t450 => (impl_determinant.l0 k1 l0 l1 a2 (wrap64 (x7_1 + (wrap64 ((wrap64 (x8_1 * (rd (rd_L4 l0 (rd l1 0)) x21_1))) * t450)))) (wrap64 (-x8_1)) (rd_L4 l0 (rd l1 0)) ((rd_L4 l0 (rd l1 0)).length : Int) (wrap64 (x21_1 + 1)))) else (none)))) = some r := by first | (rw [hji12] at H; exact H) | (simp only [hji12] at H ⊢; exact H)
         have hji12_ : (a2 / 2 ^ min x21_1.toNat 64) = ji12 := hji12
         have hji12z : x21_1 ≤ 64 → (a2 / 2 ^ x21_1.toNat) = ji12 := shr_small hji12
         by_cases c13 : (Go.bits .and .i64 (ji12) 1) = 0
         ·rw [if_pos c13] at H
          have c13b0 : ((Go.bits .and .i64 (ji12) 1) == 0) = true := beq_iff_eq.mpr c13
          have c13b1 : ((Go.bits .and .i64 (ji12) 1) != 0) = false := bne_eq_false_iff_eq.mpr c13
          clear c13
          have H' := Aside0.mk H
          clear H
          have p448 : 0 ≤ (x21_1 : Int) := ofA
          have q448 : x21_1 < ((rd_L4 l0 (rd l1 0)).length : Int) := ofA
          obtain ⟨ad448, e448, hx448_0⟩ := Kd.at_int HR447_0.out x21_1 p448 q448
          cases e448
          replace hx448_0 := (HB.out.cell (World.block_lt_of_cell? w _ hx448_0)).trans hx448_0
          replace p448 := eq_true p448
          replace q448 := eq_true q448
          go_wp2
          go_roundg k1
          case measure => have := HK1.out; omega
          case rel => exact ⟨(x7_1), (x8_1), (wrap64 (x21_1 + 1)), eqA, eqA, eqA, H', ⟨by have := HK1.out; omega⟩, ⟨by exact Lz HB⟩⟩
         rw [if_neg c13] at H
         have c13b0 : ((Go.bits .and .i64 (ji12) 1) == 0) = false := beq_eq_false_iff_ne.mpr c13
         have c13b1 : ((Go.bits .and .i64 (ji12) 1) != 0) = true := bne_iff_ne.mpr c13
         by_cases c14 : (rd (rd_L4 l0 (rd l1 0)) x21_1) = 0
         ·rw [if_pos c14] at H
          have c14b0 : ((rd (rd_L4 l0 (rd l1 0)) x21_1) == 0) = true := beq_iff_eq.mpr c14
          have c14b1 : ((rd (rd_L4 l0 (rd l1 0)) x21_1) != 0) = false := bne_eq_false_iff_eq.mpr c14
          clear c14
          have H' := Aside0.mk H
          clear H
          have p448 : 0 ≤ (x21_1 : Int) := ofA
          have q448 : x21_1 < ((rd_L4 l0 (rd l1 0)).length : Int) := ofA
          obtain ⟨ad448, e448, hx448_0⟩ := Kd.at_int HR447_0.out x21_1 p448 q448
          cases e448
          replace hx448_0 := (HB.out.cell (World.block_lt_of_cell? w _ hx448_0)).trans hx448_0
          replace p448 := eq_true p448
          replace q448 := eq_true q448
          go_wp2
          go_roundg k1
          case measure => have := HK1.out; omega
          case rel => exact ⟨(x7_1), (wrap64 (-x8_1)), (wrap64 (x21_1 + 1)), eqA, eqA, eqA, H', ⟨by have := HK1.out; omega⟩, ⟨by exact Lz HB⟩⟩
         rw [if_neg c14] at H
         have c14b0 : ((rd (rd_L4 l0 (rd l1 0)) x21_1) == 0) = false := beq_eq_false_iff_ne.mpr c14
         have c14b1 : ((rd (rd_L4 l0 (rd l1 0)) x21_1) != 0) = true := bne_iff_ne.mpr c14
         by_cases c15 : 1 ≤ (l1.length : Int)
         ·rw [if_pos c15] at H
          have c15b0 := eq_true c15
          have c15b1 : decide (1 ≤ (l1.length : Int)) = true := decide_eq_true c15
          clear c15
          have c16b0 := eq_true (ofA : 0 ≤ x21_1)
          obtain ⟨ji17, hji17⟩ : ∃ j_ : Int, (shl .i64 1 x21_1) = j_ := ⟨_, rfl⟩
          replace H : ((impl_determinant.f k1 l0 (l1.drop 1) (Go.bits .andNot .i64 a2 (ji17))).bind fun t450 => (impl_determinant.l0 k1 l0 l1 a2 (wrap64 (x7_1 + (wrap64 ((wrap64 (x8_1 * (rd (rd_L4 l0 (rd l1 0)) x21_1))) * t450)))) (wrap64 (-x8_1)) (rd_L4 l0 (rd l1 0)) ((rd_L4 l0 (rd l1 0)).length : Int) (wrap64 (x21_1 + 1)))) = some r := by first | (rw [hji17] at H; exact H) | (simp only [hji17] at H ⊢; exact H)
          have hji17_ : (IntKind.i64.wrap (1 * 2 ^ min x21_1.toNat 64)) = ji17 := hji17
          have hji17z : x21_1 ≤ 64 → (IntKind.i64.wrap (1 * 2 ^ x21_1.toNat)) = ji17 := shl_small hji17
          have hji17u : (IntKind.i64.wrap (2 ^ min x21_1.toNat 64)) = ji17 := by have h_ := hji17_; rw [Int.one_mul] at h_; exact h_
          have hji17v : x21_1 ≤ 64 → (IntKind.i64.wrap (2 ^ x21_1.toNat)) = ji17 := fun hle_ => by have h_ := hji17z hle_; rw [Int.one_mul] at h_; exact h_
          have hji17y : (wrap64 (1 * 2 ^ min x21_1.toNat 64)) = ji17 := (i64_w _).symm.trans hji17_
          have hji17x : x21_1 ≤ 64 → (wrap64 (1 * 2 ^ x21_1.toNat)) = ji17 := fun h_ => (i64_w _).symm.trans (hji17z h_)
          replace H := Option.bind_eq_some_iff.mp H
          obtain ⟨t450, A180, H⟩ := H
          replace H : (impl_determinant.l0 k1 l0 l1 a2 (wrap64 (x7_1 + (wrap64 ((wrap64 (x8_1 * (rd (rd_L4 l0 (rd l1 0)) x21_1))) * t450)))) (wrap64 (-x8_1)) (rd_L4 l0 (rd l1 0)) ((rd_L4 l0 (rd l1 0)).length : Int) (wrap64 (x21_1 + 1))) = some r := H
          have A18 := Aside0.mk A180
          clear A180
          have H' := Aside0.mk H
          clear H
          have p448 : 0 ≤ (x21_1 : Int) := ofA
          have q448 : x21_1 < ((rd_L4 l0 (rd l1 0)).length : Int) := ofA
          obtain ⟨ad448, e448, hx448_0⟩ := Kd.at_int HR447_0.out x21_1 p448 q448
          cases e448
          replace hx448_0 := (HB.out.cell (World.block_lt_of_cell? w _ hx448_0)).trans hx448_0
          replace p448 := eq_true p448
          replace q448 := eq_true q448
          try go_wp2
          replace HB := Aside0.mk (below_drew1 HB.out)
          obtain ⟨i020, hi020, _, hsz20, _⟩ := info_parts info3
          obtain ⟨A20, hcut20, hA20, hC20⟩ := print_drop_of (P := Try.prog) (Value.int .i64) 0 37 3 .i64 Try.underlying37 hi020 hsz20 (some ad446) c1 l1 1 (by omega) (ofA) HC1.out
          have HR449 := Aside0.mk (Kd.C_of_reads (h1 := fun _ => rfl) (hA20 _ (Kd.reads_of_C HR1.out)))
          have HC449 := Aside0.mk hC20
          clear hA20 hC20 hi020 hsz20
          refine start_ (n := 15) (S := fun w' => True) (ds := []) #[false, false, false, false, false, false, false, false, false, false, false, false, false, false, false] (by kernel_rfl) rfl rfl trivial (fun hHeld => ?_); refine with_tabW impl_determinant.tab9 impl_determinant.bits9 (fun HT_ HW_ => ?_)
          generalize wr.drew = w19 at HB HR449 hHeld ⊢
          refine pureT_ 0 33 HT_ ?_
          refine pureT_ 1 34 HT_ ?_
          refine pureT_ 2 35 HT_ ?_
          refine pureT_ 3 36 HT_ ?_
          refine pureT_ 4 37 HT_ ?_
          refine pureT_ 5 38 HT_ ?_
          refine pureT_ 6 39 HT_ ?_
          refine pureT_ 7 40 HT_ ?_
          refine pureT_ 8 41 HT_ ?_
          refine pureT_ 9 42 HT_ ?_
          refine pureT_ 10 43 HT_ ?_
          refine one_ (i := 11) (N := some 44) #[true, true, true, true, true, true, true, true, true, true, true, true, false, false, false] rfl rfl (one_of HT_.out (by kernel_rfl)) (by decide) (fun K hK => ?_)
          refine goes_ Try.func62 (by kernel_rfl) rfl #[.slice (some ad447) l0.length c0, .slice A20 (l1.drop 1).length (c1 - 1), .int .i64 (Go.bits .andNot .i64 a2 (ji17))] (by rfl) rfl rfl (by (try simp only [List.map_toArray, List.map_cons, List.map_nil]); first | done | (rw [show (l1.drop 1).length = (l1.length - 1) from List.length_drop] <;> rfl) | (simp only [hji17]; rfl) | rfl | (simp only [List.length_drop, List.length_take]; rfl)) ?_
          with_reducible refine (ih k1 (by have := HK1.out; omega) _ _ l0 _ _ (l1.drop 1) (Go.bits .andNot .i64 a2 (ji17)) t450 _ ?side1 ?side2 ?side3 ?side4 A18.out).mono ?_
          (case side1 => exact Cz ((Kd.C_below HR0.out HB.out)))
          (case side2 => exact HC0.out)
          (case side3 => exact Cz ((Kd.C_below HR449.out HB.out)))
          (case side4 => exact HC449.out)
          rintro e w21 ⟨rfl, hb⟩
          refine ⟨_, rfl, ?_⟩
          replace HB := Aside0.mk (below_step (Lz HB) hb)
          (try clear hb)
          (try clear hb2)
          (try clear hk)
          (try clear hi)
          refine hK.out _ _ trivial (fun hHeld => ?_)
          clear hK K
          refine norm_ (a' := ?_) ?_ ?_
          rotate_left
          ·show Act.put _ (some 44) _ = _
           simp only [Act.put, List.setIfInBounds_toArray, List.set_cons_zero, List.set_cons_succ, i64_w, i32_w]
           rfl
          refine pureT_ 12 45 HT_ ?_
          refine pureT_ 13 46 HT_ ?_
          refine pureT_ 14 7 HT_ ?_
          refine done_ (done_of HT_.out (by kernel_rfl)) ?_
          try go_wp2
          go_roundg k1
          case measure => have := HK1.out; omega
          case rel => exact ⟨(wrap64 (x7_1 + (wrap64 ((wrap64 (x8_1 * (rd (rd_L4 l0 (rd l1 0)) x21_1))) * t450)))), (wrap64 (-x8_1)), (wrap64 (x21_1 + 1)), eqA, eqA, eqA, H', ⟨by have := HK1.out; omega⟩, ⟨by exact Lz HB⟩⟩
         rw [if_neg c15] at H
         exact absurd H (by simp)
        rw [if_neg c10] at H
        exact absurd H (by simp)
       rw [if_neg c9] at H
       exact absurd H (by simp)
      rw [if_neg c8] at H
      have c8b0 : decide (x21_1 < ((rd_L4 l0 (rd l1 0)).length : Int)) = false := decide_eq_false c8
      clear c8
      obtain rfl := Option.some.inj H
      go_wp2
      go_ret
      exact ⟨by first | rfl | (simp [errW_none, errW_some] <;> rfl) | (simp [*, errW_none, errW_some] <;> rfl), by exact Lz HB⟩
   rw [if_neg c7] at H
   exact absurd H (by simp)
  rw [if_neg c6] at H
  exact absurd H (by simp)
 rw [if_neg c5] at H
 exact absurd H (by simp)
def impl_Determinant.f (k : Nat) (l0 : List (List Int)) : Option (Int) := (impl_MatrixOk.f k l0).bind fun t451 => (if t451 = true then ((impl_bitsOf.f k (wrap64 ((shl .i64 1 (l0.length : Int)) - 1))).bind fun t452 => ((impl_determinant.f k l0 t452 (wrap64 ((shl .i64 1 (l0.length : Int)) - 1))).bind fun t455 => (some t455))) else (some 0))
def impl_Determinant.T3 : Bool × List (List Nat × List Nat) := (true, [([], []), ([], []), ([1], [1]), ([2], [2]), ([3], [3]), ([4], [4]), ([], []), ([6], [6]), ([7], [7]), ([8], [8]), ([0, 5, 9, 5], [0, 5, 9]), ([10, 10, 0, 1, 2, 3, 4, 5, 6, 7, 8, 9, 10], [10])])
def impl_Determinant.B3 : List Nat := [0, 0, 2, 6, 14, 30, 0, 64, 192, 448, 1023, 2047]
theorem impl_Determinant.tab3 : rtab .any (opsOf Try.f67 3) = impl_Determinant.T3 := by kernel_rfl
theorem impl_Determinant.bits3 : waitsOk impl_Determinant.T3.2 impl_Determinant.B3 = true := by kernel_rfl
set_option maxHeartbeats 8000000 in
set_option maxRecDepth 100000 in
theorem impl_Determinant.calls (k : Nat) (A0 : Option Addr) (c0 : Nat) (l0 : List (List Int)) (r : Int) (w : World) (hr0 : Kd.C (Kd.slice 3 (Kd.int .i64)) w A0 l0.length l0) (hc0 : l0.length ≤ c0) (h : impl_Determinant.f k l0 = some r) :
  Calls Try.prog 67 #[.slice A0 l0.length c0] w fun e w' => e = .returned (.int .i64 r) ∧ Below w.heap.size w w' := by
 have HR0 := Aside0.mk hr0
 have HC0 := Aside0.mk hc0
 clear hr0 hc0
 have HB := Aside0.mk (Below.refl w.heap.size w)
 have H : ((impl_MatrixOk.f k l0).bind fun t451 => (if t451 = true then ((impl_bitsOf.f k (wrap64 ((shl .i64 1 (l0.length : Int)) - 1))).bind fun t452 => ((impl_determinant.f k l0 t452 (wrap64 ((shl .i64 1 (l0.length : Int)) - 1))).bind fun t455 => (some t455))) else (some 0))) = some r := h
 clear h
 replace H := Option.bind_eq_some_iff.mp H
 obtain ⟨t451, A20, H⟩ := H
 replace H : (if t451 = true then ((impl_bitsOf.f k (wrap64 ((shl .i64 1 (l0.length : Int)) - 1))).bind fun t452 => ((impl_determinant.f k l0 t452 (wrap64 ((shl .i64 1 (l0.length : Int)) - 1))).bind fun t455 => (some t455))) else (some 0)) = some r := H
 have A2 := Aside0.mk A20
 clear A20
 by_cases c3 : t451 = true
 ·subst c3
  have H1 : ((impl_bitsOf.f k (wrap64 ((shl .i64 1 (l0.length : Int)) - 1))).bind fun t452 => ((impl_determinant.f k l0 t452 (wrap64 ((shl .i64 1 (l0.length : Int)) - 1))).bind fun t455 => (some t455))) = some r := by rw [if_pos rfl] at H; exact H
  clear H
  have H := H1
  clear H1
  obtain ⟨ji4, hji4⟩ : ∃ j_ : Int, (shl .i64 1 (l0.length : Int)) = j_ := ⟨_, rfl⟩
  replace H : ((impl_bitsOf.f k (wrap64 ((ji4) - 1))).bind fun t452 => ((impl_determinant.f k l0 t452 (wrap64 ((ji4) - 1))).bind fun t455 => (some t455))) = some r := by first | (rw [hji4] at H; exact H) | (simp only [hji4] at H ⊢; exact H)
  (try rw [hji4] at A2)
  have hji4_ : (IntKind.i64.wrap (1 * 2 ^ min (l0.length : Int).toNat 64)) = ji4 := hji4
  have hji4z : (l0.length : Int) ≤ 64 → (IntKind.i64.wrap (1 * 2 ^ (l0.length : Int).toNat)) = ji4 := shl_small hji4
  have hji4p : (IntKind.i64.wrap (1 * 2 ^ min l0.length 64)) = ji4 := hji4_
  have hji4q : (l0.length : Int) ≤ 64 → (IntKind.i64.wrap (1 * 2 ^ l0.length)) = ji4 := hji4z
  have hji4r : (IntKind.i64.wrap (2 ^ min l0.length 64)) = ji4 := by have h_ := hji4p; rw [Int.one_mul] at h_; exact h_
  have hji4s : (l0.length : Int) ≤ 64 → (IntKind.i64.wrap (2 ^ l0.length)) = ji4 := fun hle_ => by have h_ := hji4q hle_; rw [Int.one_mul] at h_; exact h_
  have hji4u : (IntKind.i64.wrap (2 ^ min (l0.length : Int).toNat 64)) = ji4 := by have h_ := hji4_; rw [Int.one_mul] at h_; exact h_
  have hji4v : (l0.length : Int) ≤ 64 → (IntKind.i64.wrap (2 ^ (l0.length : Int).toNat)) = ji4 := fun hle_ => by have h_ := hji4z hle_; rw [Int.one_mul] at h_; exact h_
  have hji4y : (wrap64 (1 * 2 ^ min (l0.length : Int).toNat 64)) = ji4 := (i64_w _).symm.trans hji4_
  have hji4x : (l0.length : Int) ≤ 64 → (wrap64 (1 * 2 ^ (l0.length : Int).toNat)) = ji4 := fun h_ => (i64_w _).symm.trans (hji4z h_)
  replace H := Option.bind_eq_some_iff.mp H
  obtain ⟨t452, A50, H⟩ := H
  replace H : ((impl_determinant.f k l0 t452 (wrap64 ((ji4) - 1))).bind fun t455 => (some t455)) = some r := H
  have A5 := Aside0.mk A50
  clear A50
  replace H := Option.bind_eq_some_iff.mp H
  obtain ⟨t455, A60, H⟩ := H
  replace H : (some t455) = some r := H
  have A6 := Aside0.mk A60
  clear A60
  obtain rfl := Option.some.inj H
  go_enter Try.func67, Try.ntmps67
  try go_wp2_with (first | ((with_reducible refine gate_callee (f := 59) rfl ?_); refine goesM_ (some 4) rfl rfl Try.func59 (by kernel_rfl) rfl #[.slice A0 l0.length c0] rfl ?_; (with_reducible refine (impl_MatrixOk.calls k _ _ l0 true _ ?side1 ?side2 A2.out).mono ?_); (case side1 => exact Cz (HR0.out)); (case side2 => exact HC0.out); rintro e w' ⟨rfl, ⟨nd, rfl⟩⟩; refine ⟨_, rfl, ?_⟩))
  have HBq_ : Aside0 (Below w.heap.size w (w.drewN nd)) := Aside0.mk (pw_below_drewN HB.out _)
  clear HB
  generalize w.drewN nd = wq_ at HBq_ ⊢
  have HB := HBq_
  clear HBq_
  replace HB := Aside0.mk (below_drew1 HB.out)
  refine start_ (n := 12) (S := fun w' => True) (ds := []) #[false, false, false, false, false, false, false, false, false, false, false, false] (by kernel_rfl) rfl rfl trivial (fun hHeld => ?_); refine with_tabW impl_Determinant.tab3 impl_Determinant.bits3 (fun HT_ HW_ => ?_)
  generalize wq_.drew = w7 at HB hHeld ⊢
  refine pureT_ 0 6 HT_ ?_
  refine pureT_ 1 7 HT_ ?_
  refine pureT_ 2 8 HT_ ?_
  refine pureT_ 3 9 HT_ ?_
  refine pureT_ 4 10 HT_ ?_
  refine pureT_ 6 12 HT_ ?_
  refine pureT_ 7 13 HT_ ?_
  refine pureT_ 8 14 HT_ ?_
  refine pureT_ 9 15 HT_ ?_
  refine one_ (i := 5) (N := some 11) #[true, true, true, true, true, true, true, true, true, true, false, false] rfl rfl (one_of HT_.out (by kernel_rfl)) (by decide) (fun K hK => ?_)
  refine goes_ Try.func60 (by kernel_rfl) rfl #[.int .i64 (wrap64 ((ji4) - 1))] (by rfl) rfl rfl (by (try simp only [List.map_toArray, List.map_cons, List.map_nil]); first | done | (simp only [hji4]; rfl) | rfl | (simp only [List.length_drop, List.length_take]; rfl)) ?_
  with_reducible refine (impl_bitsOf.calls k (wrap64 ((ji4) - 1)) t452 _ A5.out).mono ?_
  rintro e w8 ⟨v453, rfl, ho0, hb⟩
  refine ⟨_, rfl, ?_⟩
  have HO454 := Aside0.mk (Kd.R_lower ho0 (below_size (Lz HB)))
  replace HB := Aside0.mk (below_step (Lz HB) hb)
  (try clear hb)
  (try clear hb2)
  (try clear hk)
  (try clear hi)
  (try clear ho0)
  obtain ⟨Ao9, co9, eo9⟩ := Kd.R_slice HO454.out
  (first | subst eo9 | (injection eo9 with f1_ f2_ f3_; have f4_ := f1_.symm; have f5_ := f3_.symm; clear f1_ f2_ f3_; subst f4_; subst f5_))
  refine hK.out _ _ trivial (fun hHeld => ?_)
  clear hK K
  refine norm_ (a' := ?_) ?_ ?_
  rotate_left
  ·show Act.put _ (some 11) _ = _
   simp only [Act.put, List.setIfInBounds_toArray, List.set_cons_zero, List.set_cons_succ, i64_w, i32_w]
   rfl
  refine one_ (i := 10) (N := some 16) #[true, true, true, true, true, true, true, true, true, true, true, false] rfl rfl (one_of HT_.out (by kernel_rfl)) (by decide) (fun K hK => ?_)
  refine goes_ Try.func62 (by kernel_rfl) rfl #[.slice A0 l0.length c0, .slice Ao9 t452.length co9, .int .i64 (wrap64 ((ji4) - 1))] (by rfl) rfl rfl (by (try simp only [List.map_toArray, List.map_cons, List.map_nil]); first | done | (simp only [hji4]; rfl) | rfl | (simp only [List.length_drop, List.length_take]; rfl)) ?_
  with_reducible refine (impl_determinant.calls k _ _ l0 _ _ t452 (wrap64 ((ji4) - 1)) t455 _ ?side1 ?side2 ?side3 ?side4 A6.out).mono ?_
  (case side1 => exact Cz ((Kd.C_below HR0.out HB.out)))
  (case side2 => exact HC0.out)
  (case side3 => exact Cz ((Kd.R_reads' HO454.out).2.2))
  (case side4 => exact (Kd.R_reads' HO454.out).2.1)
  rintro e w10 ⟨rfl, hb⟩
  refine ⟨_, rfl, ?_⟩
  replace HO454 := Aside0.mk (Kd.R_below (Rz HO454) hb)
  replace HB := Aside0.mk (below_step (Lz HB) hb)
  (try clear hb)
  (try clear hb2)
  (try clear hk)
  (try clear hi)
  refine hK.out _ _ trivial (fun hHeld => ?_)
  clear hK K
  refine norm_ (a' := ?_) ?_ ?_
  rotate_left
  ·show Act.put _ (some 16) _ = _
   simp only [Act.put, List.setIfInBounds_toArray, List.set_cons_zero, List.set_cons_succ, i64_w, i32_w]
   rfl
  refine pureT_ 11 2 HT_ ?_
  refine done_ (done_of HT_.out (by kernel_rfl)) ?_
  try go_wp2
  go_ret
  exact ⟨by first | rfl | (simp [errW_none, errW_some] <;> rfl) | (simp only [← hji4]; first | rfl | (simp [errW_none, errW_some] <;> rfl)) | (simp [*, errW_none, errW_some] <;> rfl), by exact Lz HB⟩
 replace c3 := Bool.eq_false_iff.mpr c3
 subst c3
 have H1 : (some 0) = some r := by rw [if_neg (show ¬ (false = true) by decide)] at H; exact H
 clear H
 have H := H1
 clear H1
 obtain rfl := Option.some.inj H
 go_enter Try.func67, Try.ntmps67
 go_wp2_with (first | ((with_reducible refine gate_callee (f := 59) rfl ?_); refine goesM_ (some 4) rfl rfl Try.func59 (by kernel_rfl) rfl #[.slice A0 l0.length c0] rfl ?_; (with_reducible refine (impl_MatrixOk.calls k _ _ l0 false _ ?side1 ?side2 A2.out).mono ?_); (case side1 => exact Cz (HR0.out)); (case side2 => exact HC0.out); rintro e w' ⟨rfl, ⟨nd, rfl⟩⟩; refine ⟨_, rfl, ?_⟩))
 go_ret
 exact ⟨by first | rfl | (simp [errW_none, errW_some] <;> rfl) | (simp [*, errW_none, errW_some] <;> rfl), by exact Lz HB⟩
def impl_CountTrees.f (k : Nat) (a0_0 : Int) (l0_1 : List (S57)) : Option (Int) := (impl_GraphOk.f k a0_0 l0_1).bind fun t457 => (if t457 = true then ((impl_ReducedLaplacian.f k a0_0 l0_1 0).bind fun t458 => ((impl_Determinant.f k t458).bind fun t461 => (some t461))) else (some 0))
set_option maxHeartbeats 8000000 in
set_option maxRecDepth 100000 in
theorem impl_CountTrees.calls (k : Nat) (a0_0 : Int) (A0_1 : Option Addr) (c0_1 : Nat) (l0_1 : List (S57)) (r : Int) (w : World) (hr0_1 : Kd.C k57 w A0_1 l0_1.length l0_1) (hc0_1 : l0_1.length ≤ c0_1) (h : impl_CountTrees.f k a0_0 l0_1 = some r) :
  Calls Try.prog 30 #[.agg #[.int .i64 a0_0, .slice A0_1 l0_1.length c0_1]] w fun e w' => e = .returned (.int .i64 r) ∧ Below w.heap.size w w' := by
 have hu30 := Try.underlying30
 have HR0_1 := Aside0.mk hr0_1
 have HC0_1 := Aside0.mk hc0_1
 clear hr0_1 hc0_1
 have HB := Aside0.mk (Below.refl w.heap.size w)
 have H : ((impl_GraphOk.f k a0_0 l0_1).bind fun t457 => (if t457 = true then ((impl_ReducedLaplacian.f k a0_0 l0_1 0).bind fun t458 => ((impl_Determinant.f k t458).bind fun t461 => (some t461))) else (some 0))) = some r := h
 clear h
 replace H := Option.bind_eq_some_iff.mp H
 obtain ⟨t457, A20, H⟩ := H
 replace H : (if t457 = true then ((impl_ReducedLaplacian.f k a0_0 l0_1 0).bind fun t458 => ((impl_Determinant.f k t458).bind fun t461 => (some t461))) else (some 0)) = some r := H
 have A2 := Aside0.mk A20
 clear A20
 by_cases c3 : t457 = true
 ·subst c3
  have H1 : ((impl_ReducedLaplacian.f k a0_0 l0_1 0).bind fun t458 => ((impl_Determinant.f k t458).bind fun t461 => (some t461))) = some r := by rw [if_pos rfl] at H; exact H
  clear H
  have H := H1
  clear H1
  replace H := Option.bind_eq_some_iff.mp H
  obtain ⟨t458, A40, H⟩ := H
  replace H : ((impl_Determinant.f k t458).bind fun t461 => (some t461)) = some r := H
  have A4 := Aside0.mk A40
  clear A40
  replace H := Option.bind_eq_some_iff.mp H
  obtain ⟨t461, A50, H⟩ := H
  replace H : (some t461) = some r := H
  have A5 := Aside0.mk A50
  clear A50
  obtain rfl := Option.some.inj H
  go_enter Try.func30, Try.ntmps30
  go_wp2_with (first | ((with_reducible refine gate_dst (N := 1) rfl ?_); refine box_event ?hg (N := 1) ?hd (cs := #[.int .i64 a0_0, .slice A0_1 l0_1.length c0_1]) (t := 30) ?hr ?_; (case hd => rfl); (case hg => rfl); (case hr => first | (go_simp; done) | (go_simp; rfl)); intro gb456 hg w6 hbox hb; have BK456 := Aside0.mk (hbox); have GW456 := Aside0.mk ((by rw [hg]; exact (below_size (Lz HB)) : w.heap.size ≤ gb456)); have GE456 := Aside0.mk ((by rw [hg]; exact (below_size (Lz HB)) : w.heap.size ≤ gb456)); replace HB := Aside0.mk (below_step (Lz HB) hb); clear hb hbox hg; have hcz7_0 : w6.cell? ⟨gb456, 0, none⟩ = some (.int .i64 a0_0) := (blk_cell BK456.out 0).trans rfl; have hcz7_1 : w6.cell? ⟨gb456, 1, none⟩ = some (.slice A0_1 l0_1.length c0_1) := (blk_cell BK456.out 1).trans rfl; have hfz7_0 := blk_frozen BK456.out 0; have hfz7_1 := blk_frozen BK456.out 1) | ((with_reducible refine gate_callee (f := 38) rfl ?_); refine goesM_ (some 4) rfl rfl Try.func38 (by kernel_rfl) rfl #[.agg #[.int .i64 a0_0, .slice A0_1 l0_1.length c0_1]] rfl ?_; (with_reducible refine (impl_GraphOk.calls k a0_0 _ _ l0_1 true _ ?side1 ?side2 A2.out).mono ?_); (case side1 => exact Cz ((Kd.C_below HR0_1.out HB.out))); (case side2 => exact HC0_1.out); rintro e w8 ⟨rfl, hb⟩; refine ⟨_, rfl, ?_⟩; replace BK456 := Aside0.mk (blk_below (g := gb456) (o := .cells #[.int .i64 a0_0, .slice A0_1 l0_1.length c0_1] 30 (0, 0)) (Bz BK456) hb); replace HB := Aside0.mk (below_step (by exact Lz1 HB GE456) hb); (try clear hb); (try clear hb2); (try clear hk); (try clear hi); have hcz9_0 : w8.cell? ⟨gb456, 0, none⟩ = some (.int .i64 a0_0) := (blk_cell BK456.out 0).trans rfl; have hcz9_1 : w8.cell? ⟨gb456, 1, none⟩ = some (.slice A0_1 l0_1.length c0_1) := (blk_cell BK456.out 1).trans rfl; have hfz9_0 := blk_frozen BK456.out 0; have hfz9_1 := blk_frozen BK456.out 1) | ((with_reducible refine gate_callee (f := 28) rfl ?_); refine goesM_ (some 7) rfl rfl Try.func28 (by kernel_rfl) rfl #[.agg #[.int .i64 a0_0, .slice A0_1 l0_1.length c0_1], .int .i64 0] rfl ?_; (with_reducible refine (impl_ReducedLaplacian.calls k a0_0 _ _ l0_1 0 t458 _ ?side1 ?side2 A4.out).mono ?_); (case side1 => exact Cz ((Kd.C_below HR0_1.out HB.out))); (case side2 => exact HC0_1.out); rintro e w10 ⟨v459, rfl, ho0, hb⟩; refine ⟨_, rfl, ?_⟩; have HO460 := Aside0.mk (Kd.S_lower ho0 (below_size (by exact Lz1 HB GE456))); replace BK456 := Aside0.mk (blk_below (g := gb456) (o := .cells #[.int .i64 a0_0, .slice A0_1 l0_1.length c0_1] 30 (0, 0)) (Bz BK456) hb); replace HB := Aside0.mk (below_step (by exact Lz1 HB GE456) hb); (try clear hb); (try clear ho0); obtain ⟨Ao11, co11, eo11⟩ := Kd.S_slice HO460.out; subst eo11) | ((with_reducible refine gate_callee (f := 67) rfl ?_); refine goesM_ (some 8) rfl rfl Try.func67 (by kernel_rfl) rfl #[.slice Ao11 t458.length co11] rfl ?_; (with_reducible refine (impl_Determinant.calls k _ _ t458 t461 _ ?side1 ?side2 A5.out).mono ?_); (case side1 => exact Cz ((Kd.S_reads' HO460.out).2.2)); (case side2 => exact (Kd.S_reads' HO460.out).2.1); rintro e w12 ⟨rfl, hb⟩; refine ⟨_, rfl, ?_⟩; replace HO460 := Aside0.mk (Kd.S_below (by (with_reducible repeat (first | apply Kd.S_alloc | apply Kd.S_drewN | apply Kd.S_drew)); exact HO460.out) hb); replace BK456 := Aside0.mk (blk_below (g := gb456) (o := .cells #[.int .i64 a0_0, .slice A0_1 l0_1.length c0_1] 30 (0, 0)) (Bz BK456) hb); replace HB := Aside0.mk (below_step (by exact Lz1 HB GE456) hb); (try clear hb); (try clear hb2); (try clear hk); (try clear hi)))
  go_ret
  exact ⟨by first | rfl | (simp [errW_none, errW_some] <;> rfl) | (simp [*, errW_none, errW_some] <;> rfl), by exact Lz1 HB GE456⟩
 replace c3 := Bool.eq_false_iff.mpr c3
 subst c3
 have H1 : (some 0) = some r := by rw [if_neg (show ¬ (false = true) by decide)] at H; exact H
 clear H
 have H := H1
 clear H1
 obtain rfl := Option.some.inj H
 go_enter Try.func30, Try.ntmps30
 go_wp2_with (first | ((with_reducible refine gate_dst (N := 1) rfl ?_); refine box_event ?hg (N := 1) ?hd (cs := #[.int .i64 a0_0, .slice A0_1 l0_1.length c0_1]) (t := 30) ?hr ?_; (case hd => rfl); (case hg => rfl); (case hr => first | (go_simp; done) | (go_simp; rfl)); intro gb456 hg w13 hbox hb; have BK456 := Aside0.mk (hbox); have GW456 := Aside0.mk ((by rw [hg]; exact (below_size (Lz HB)) : w.heap.size ≤ gb456)); have GE456 := Aside0.mk ((by rw [hg]; exact (below_size (Lz HB)) : w.heap.size ≤ gb456)); replace HB := Aside0.mk (below_step (Lz HB) hb); clear hb hbox hg; have hcz14_0 : w13.cell? ⟨gb456, 0, none⟩ = some (.int .i64 a0_0) := (blk_cell BK456.out 0).trans rfl; have hcz14_1 : w13.cell? ⟨gb456, 1, none⟩ = some (.slice A0_1 l0_1.length c0_1) := (blk_cell BK456.out 1).trans rfl; have hfz14_0 := blk_frozen BK456.out 0; have hfz14_1 := blk_frozen BK456.out 1) | ((with_reducible refine gate_callee (f := 38) rfl ?_); refine goesM_ (some 4) rfl rfl Try.func38 (by kernel_rfl) rfl #[.agg #[.int .i64 a0_0, .slice A0_1 l0_1.length c0_1]] rfl ?_; (with_reducible refine (impl_GraphOk.calls k a0_0 _ _ l0_1 false _ ?side1 ?side2 A2.out).mono ?_); (case side1 => exact Cz ((Kd.C_below HR0_1.out HB.out))); (case side2 => exact HC0_1.out); rintro e w15 ⟨rfl, hb⟩; refine ⟨_, rfl, ?_⟩; replace BK456 := Aside0.mk (blk_below (g := gb456) (o := .cells #[.int .i64 a0_0, .slice A0_1 l0_1.length c0_1] 30 (0, 0)) (Bz BK456) hb); replace HB := Aside0.mk (below_step (by exact Lz1 HB GE456) hb); (try clear hb); (try clear hb2); (try clear hk); (try clear hi)))
 go_ret
 exact ⟨by first | rfl | (simp [errW_none, errW_some] <;> rfl) | (simp [*, errW_none, errW_some] <;> rfl), by exact Lz1 HB GE456⟩
def impl_GroupOrder.f (k : Nat) (a0_0 : Int) (l0_1 : List (S57)) : Option (Int) := (impl_CountTrees.f k a0_0 l0_1).bind fun t483 => (some t483)
set_option maxHeartbeats 8000000 in
set_option maxRecDepth 100000 in
theorem impl_GroupOrder.calls (k : Nat) (a0_0 : Int) (A0_1 : Option Addr) (c0_1 : Nat) (l0_1 : List (S57)) (r : Int) (w : World) (hr0_1 : Kd.C k57 w A0_1 l0_1.length l0_1) (hc0_1 : l0_1.length ≤ c0_1) (h : impl_GroupOrder.f k a0_0 l0_1 = some r) :
  Calls Try.prog 32 #[.agg #[.int .i64 a0_0, .slice A0_1 l0_1.length c0_1]] w fun e w' => e = .returned (.int .i64 r) ∧ Below w.heap.size w w' := by
 have hu30 := Try.underlying30
 have HR0_1 := Aside0.mk hr0_1
 have HC0_1 := Aside0.mk hc0_1
 clear hr0_1 hc0_1
 have HB := Aside0.mk (Below.refl w.heap.size w)
 have H : ((impl_CountTrees.f k a0_0 l0_1).bind fun t483 => (some t483)) = some r := h
 clear h
 replace H := Option.bind_eq_some_iff.mp H
 obtain ⟨t483, A20, H⟩ := H
 replace H : (some t483) = some r := H
 have A2 := Aside0.mk A20
 clear A20
 obtain rfl := Option.some.inj H
 go_enter Try.func32, Try.ntmps32
 go_wp2_with (first | ((with_reducible refine gate_dst (N := 1) rfl ?_); refine box_event ?hg (N := 1) ?hd (cs := #[.int .i64 a0_0, .slice A0_1 l0_1.length c0_1]) (t := 30) ?hr ?_; (case hd => rfl); (case hg => rfl); (case hr => first | (go_simp; done) | (go_simp; rfl)); intro gb482 hg w3 hbox hb; have BK482 := Aside0.mk (hbox); have GW482 := Aside0.mk ((by rw [hg]; exact (below_size (Lz HB)) : w.heap.size ≤ gb482)); have GE482 := Aside0.mk ((by rw [hg]; exact (below_size (Lz HB)) : w.heap.size ≤ gb482)); replace HB := Aside0.mk (below_step (Lz HB) hb); clear hb hbox hg; have hcz4_0 : w3.cell? ⟨gb482, 0, none⟩ = some (.int .i64 a0_0) := (blk_cell BK482.out 0).trans rfl; have hcz4_1 : w3.cell? ⟨gb482, 1, none⟩ = some (.slice A0_1 l0_1.length c0_1) := (blk_cell BK482.out 1).trans rfl; have hfz4_0 := blk_frozen BK482.out 0; have hfz4_1 := blk_frozen BK482.out 1) | ((with_reducible refine gate_callee (f := 30) rfl ?_); refine goesM_ (some 4) rfl rfl Try.func30 (by kernel_rfl) rfl #[.agg #[.int .i64 a0_0, .slice A0_1 l0_1.length c0_1]] rfl ?_; (with_reducible refine (impl_CountTrees.calls k a0_0 _ _ l0_1 t483 _ ?side1 ?side2 A2.out).mono ?_); (case side1 => exact Cz ((Kd.C_below HR0_1.out HB.out))); (case side2 => exact HC0_1.out); rintro e w5 ⟨rfl, hb⟩; refine ⟨_, rfl, ?_⟩; replace BK482 := Aside0.mk (blk_below (g := gb482) (o := .cells #[.int .i64 a0_0, .slice A0_1 l0_1.length c0_1] 30 (0, 0)) (Bz BK482) hb); replace HB := Aside0.mk (below_step (by exact Lz1 HB GE482) hb); (try clear hb); (try clear hb2); (try clear hk); (try clear hi)))
 go_ret
 exact ⟨by first | rfl | (simp [errW_none, errW_some] <;> rfl) | (simp [*, errW_none, errW_some] <;> rfl), by exact Lz1 HB GE482⟩
def impl_magnitude.f (a0 : Int) : Option (Int) := some (mx a0 (wrap64 (-a0)))
set_option maxHeartbeats 8000000 in
set_option maxRecDepth 100000 in
theorem impl_magnitude.calls (a0 : Int) (r : Int) (w : World) (h : impl_magnitude.f a0 = some r) :
  Calls Try.prog 86 #[.int .i64 a0] w fun e w' => e = .returned (.int .i64 r) ∧ Below w.heap.size w w' := by
 have HB := Aside0.mk (Below.refl w.heap.size w)
 have H : (some (mx a0 (wrap64 (-a0)))) = some r := h
 clear h
 obtain ⟨ji2, hji2⟩ : ∃ j_ : Int, (mx a0 (wrap64 (-a0))) = j_ := ⟨_, rfl⟩
 replace H : (some ji2) = some r := by first | (rw [hji2] at H; exact H) | (simp only [hji2] at H ⊢; exact H)
 have hji2_ : (if a0 < (wrap64 (-a0)) then (wrap64 (-a0)) else a0) = ji2 := hji2
 obtain rfl := Option.some.inj H
 go_enter Try.func86, Try.ntmps86
 go_wp2
 go_ret
 exact ⟨by first | rfl | (simp [errW_none, errW_some] <;> rfl) | (simp only [← hji2]; first | rfl | (simp [errW_none, errW_some] <;> rfl)) | (simp [*, errW_none, errW_some] <;> rfl), by exact Lz HB⟩
def impl_divisor.l0 : Nat → Int → Int → Option (Int)
 | 0, _, _ => none
 | k + 1, x0, x1 => if x1 = 0 then ((impl_magnitude.f x0).bind fun t537 => (some t537)) else (impl_divisor.l0 k x1 (Int.tmod x0 x1))
def impl_divisor.f (k : Nat) (a0 : Int) (a1 : Int) : Option (Int) := impl_divisor.l0 k a0 a1
set_option maxHeartbeats 8000000 in
set_option maxRecDepth 100000 in
theorem impl_divisor.calls (k : Nat) (a0 : Int) (a1 : Int) (r : Int) (w : World) (h : impl_divisor.f k a0 a1 = some r) :
  Calls Try.prog 61 #[.int .i64 a0, .int .i64 a1] w fun e w' => e = .returned (.int .i64 r) ∧ Below w.heap.size w w' := by
 have HB := Aside0.mk (Below.refl w.heap.size w)
 have H : (impl_divisor.l0 k a0 a1) = some r := h
 clear h
 have H' := Aside0.mk H
 clear H
 go_enter Try.func61, Try.ntmps61
 go_wp2
 repeat (go_quiet (fail); try go_wp2)
 go_loopg [0, 1] k (fun kq v0 v1 w' => ∃ (x0_1 : Int) (x1_1 : Int), v0 = .int .i64 x0_1 ∧ v1 = .int .i64 x1_1 ∧ Aside0 (impl_divisor.l0 kq x0_1 x1_1 = some r) ∧ Aside0 (kq ≤ k) ∧ Aside0 (Below w.heap.size w w'))
 case atStart => exact ⟨(a0), (a1), eqA, eqA, H', ⟨Nat.le_refl _⟩, ⟨by exact Lz HB⟩⟩
 case round =>
  clear H'
  obtain ⟨x0_1, x1_1, rfl, rfl, HA, HK1, HB⟩ := hrel
  cases gk with
  | zero => exact absurd HA.out (by simp [impl_divisor.l0])
  | succ k1 =>
   have H := HA.out
   clear HA
   simp only [impl_divisor.l0] at H
   by_cases c3 : x1_1 = 0
   ·rw [if_pos c3] at H
    have c3b0 : (x1_1 == 0) = true := beq_iff_eq.mpr c3
    have c3b1 : (x1_1 != 0) = false := bne_eq_false_iff_eq.mpr c3
    clear c3
    replace H := Option.bind_eq_some_iff.mp H
    obtain ⟨t537, A40, H⟩ := H
    replace H : (some t537) = some r := H
    have A4 := Aside0.mk A40
    clear A40
    obtain rfl := Option.some.inj H
    go_wp2_with (first | (go_at_call 86; (with_reducible refine (impl_magnitude.calls x0_1 t537 _ A4.out).mono ?_); rintro e w5 ⟨rfl, hb⟩; replace HB := Aside0.mk (below_step (Lz HB) hb); (try clear hb); (try clear hb2); (try clear hk); (try clear hi)))
    repeat (go_quiet (first | (go_at_call 86; (with_reducible refine (impl_magnitude.calls x0_1 t537 _ A4.out).mono ?_); rintro e w5 ⟨rfl, hb⟩; replace HB := Aside0.mk (below_step (Lz HB) hb); (try clear hb); (try clear hb2); (try clear hk); (try clear hi))); try go_wp2_with (first | (go_at_call 86; (with_reducible refine (impl_magnitude.calls x0_1 t537 _ A4.out).mono ?_); rintro e w5 ⟨rfl, hb⟩; replace HB := Aside0.mk (below_step (Lz HB) hb); (try clear hb); (try clear hb2); (try clear hk); (try clear hi))))
    go_ret
    exact ⟨by first | rfl | (simp [errW_none, errW_some] <;> rfl) | (simp [*, errW_none, errW_some] <;> rfl), by exact Lz HB⟩
   rw [if_neg c3] at H
   have c3b0 : (x1_1 == 0) = false := beq_eq_false_iff_ne.mpr c3
   have c3b1 : (x1_1 != 0) = true := bne_iff_ne.mpr c3
   have H' := Aside0.mk H
   clear H
   go_wp2
   repeat (go_quiet (fail); try go_wp2)
   go_roundg k1
   case measure => have := HK1.out; omega
   case rel => exact ⟨(x1_1), (Int.tmod x0_1 x1_1), eqA, eqA, H', ⟨by have := HK1.out; omega⟩, ⟨by exact Lz HB⟩⟩
mutual
def impl_InvariantFactors.j0 : Nat → List (List Int) → Bool → Option (List Int)
 | 0, _, _ => none
 | k + 1, x0, x16 => if x16 = true then (some ([] : List Int)) else (if 0 ≤ (wrap64 ((x0.length : Int) + 1)) then (if (wrap64 ((x0.length : Int) + 1) : Int).toNat ≤ 35184372088832 then (impl_InvariantFactors.l0 k x0 (List.replicate (wrap64 ((x0.length : Int) + 1) : Int).toNat 0) 0) else (none)) else (none))
def impl_InvariantFactors.l0 : Nat → List (List Int) → List Int → Int → Option (List Int)
 | 0, _, _, _ => none
 | k + 1, x0, x3, x4 => if x4 < (shl .i64 1 (x0.length : Int)) then ((impl_bitsOf.f k x4).bind fun t542 => (impl_InvariantFactors.l1 k x0 x3 x4 t542 0)) else (impl_InvariantFactors.l2 k x3 ([] : List Int) (x0.length : Int) 0)
def impl_InvariantFactors.l1 : Nat → List (List Int) → List Int → Int → List Int → Int → Option (List Int)
 | 0, _, _, _, _, _ => none
 | k + 1, x0, x3, x4, x5, x6 => if x6 < (shl .i64 1 (x0.length : Int)) then ((impl_bitsOf.f k x6).bind fun t545 => (if (t545.length : Int) = (x5.length : Int) then (if 0 ≤ (x5.length : Int) then (if (x5.length : Int) < (x3.length : Int) then ((impl_determinant.f k x0 x5 x6).bind fun t549 => ((impl_divisor.f k (rd x3 (x5.length : Int)) t549).bind fun t550 => (impl_InvariantFactors.l1 k x0 (x3.set ((x5.length : Int) : Int).toNat t550) x4 x5 (wrap64 (x6 + 1))))) else (none)) else (none)) else (impl_InvariantFactors.l1 k x0 x3 x4 x5 (wrap64 (x6 + 1))))) else (impl_InvariantFactors.l0 k x0 x3 (wrap64 (x4 + 1)))
def impl_InvariantFactors.l2 : Nat → List Int → List Int → Int → Int → Option (List Int)
 | 0, _, _, _, _ => none
 | k + 1, x3, x7, x58, x59 => if x59 < x58 then (if 0 ≤ (wrap64 (x59 + 1)) then (if (wrap64 (x59 + 1)) < (x3.length : Int) then (if (rd x3 (wrap64 (x59 + 1))) = 0 then (if x7.length < 17592186044416 then (impl_InvariantFactors.l2 k x3 (x7 ++ [0]) x58 (wrap64 (x59 + 1))) else (none)) else (if 0 ≤ x59 then (if x59 < (x3.length : Int) then (if (rd x3 x59) = 0 then (none) else (if x7.length < 17592186044416 then (impl_InvariantFactors.l2 k x3 (x7 ++ [wrap64 (Int.tdiv (rd x3 (wrap64 (x59 + 1))) (rd x3 x59))]) x58 (wrap64 (x59 + 1))) else (none))) else (none)) else (none))) else (none)) else (none)) else (some x7)
end
def impl_InvariantFactors.f (k : Nat) (l0 : List (List Int)) : Option (List Int) := (impl_MatrixOk.f k l0).bind fun t538 => (if t538 = true then (impl_InvariantFactors.j0 k l0 ((l0.length : Int) == 0)) else (impl_InvariantFactors.j0 k l0 true))
def impl_InvariantFactors.T12 : Bool × List (List Nat × List Nat) := (true, [([], []), ([], []), ([1], [1]), ([], []), ([], []), ([4], [4]), ([3, 5], [3, 5]), ([6], [6]), ([], []), ([], []), ([], []), ([8, 9, 10], [8, 9, 10]), ([7, 11, 11], [7, 11]), ([0, 2, 0, 1, 2, 3, 4, 5, 6, 7, 8, 9, 10, 11, 12], [0, 2]), ([13, 12, 12, 0, 1, 2, 3, 4, 5, 6, 7, 8, 9, 10, 11, 12], [12, 13])])
def impl_InvariantFactors.B12 : List Nat := [0, 0, 2, 0, 0, 16, 56, 120, 0, 0, 0, 1792, 4088, 8191, 16383]
theorem impl_InvariantFactors.tab12 : rtab .any (opsOf Try.f23 12) = impl_InvariantFactors.T12 := by kernel_rfl
theorem impl_InvariantFactors.bits12 : waitsOk impl_InvariantFactors.T12.2 impl_InvariantFactors.B12 = true := by kernel_rfl
def impl_InvariantFactors.T19 : Bool × List (List Nat × List Nat) := (true, [([], []), ([], []), ([], []), ([2], [2]), ([1, 3], [1, 3]), ([4], [4]), ([], []), ([], []), ([6, 7], [6, 7]), ([8], [8]), ([5, 9], [5, 9]), ([10], [10]), ([0, 11], [0, 11]), ([12, 12, 0, 1, 2, 3, 4, 5, 6, 7, 8, 9, 10, 11, 12], [0, 12])])
def impl_InvariantFactors.B19 : List Nat := [0, 0, 0, 4, 14, 30, 0, 0, 192, 448, 1022, 2046, 4095, 8191]
theorem impl_InvariantFactors.tab19 : rtab .any (opsOf Try.f23 19) = impl_InvariantFactors.T19 := by kernel_rfl
theorem impl_InvariantFactors.bits19 : waitsOk impl_InvariantFactors.T19.2 impl_InvariantFactors.B19 = true := by kernel_rfl
set_option maxHeartbeats 8000000 in
set_option maxRecDepth 100000 in
theorem impl_InvariantFactors.calls (k : Nat) (A0 : Option Addr) (c0 : Nat) (l0 : List (List Int)) (r : List Int) (w : World) (hr0 : Kd.C (Kd.slice 3 (Kd.int .i64)) w A0 l0.length l0) (hc0 : l0.length ≤ c0) (h : impl_InvariantFactors.f k l0 = some r) :
  Calls Try.prog 23 #[.slice A0 l0.length c0] w fun e w' => ∃ v0_ : Value, e = .returned (v0_) ∧ Kd.R (Kd.int .i64) 3 w' w.heap.size (fun _ => True) v0_ r ∧ Below w.heap.size w w' := by
 have HR0 := Aside0.mk hr0
 have HC0 := Aside0.mk hc0
 clear hr0 hc0
 have HB := Aside0.mk (Below.refl w.heap.size w)
 have H : ((impl_MatrixOk.f k l0).bind fun t538 => (if t538 = true then (impl_InvariantFactors.j0 k l0 ((l0.length : Int) == 0)) else (impl_InvariantFactors.j0 k l0 true))) = some r := h
 clear h
 have HC2 := Aside0.mk H
 clear H
 go_enter Try.func23, Try.ntmps23
 go_upto_region 1 with (fail)
 go_cut [16] (fun v16 wc => ∃ (kq : Nat) (x16_1 : Bool), v16 = .bool x16_1 ∧ Aside0 (impl_InvariantFactors.j0 kq l0 x16_1 = some r) ∧ Aside0 (kq ≤ k) ∧ Aside0 (Below w.heap.size w wc))
 case first =>
  have H := HC2.out
  clear HC2
  replace H := Option.bind_eq_some_iff.mp H
  obtain ⟨t538, A30, H⟩ := H
  replace H : (if t538 = true then (impl_InvariantFactors.j0 k l0 ((l0.length : Int) == 0)) else (impl_InvariantFactors.j0 k l0 true)) = some r := H
  have A3 := Aside0.mk A30
  clear A30
  by_cases c4 : t538 = true
  ·subst c4
   have H1 : (impl_InvariantFactors.j0 k l0 ((l0.length : Int) == 0)) = some r := by rw [if_pos rfl] at H; exact H
   clear H
   have H := H1
   clear H1
   have H' := Aside0.mk H
   clear H
   go_wp2_with (first | ((with_reducible refine gate_callee (f := 59) rfl ?_); refine goesM_ (some 10) rfl rfl Try.func59 (by kernel_rfl) rfl #[.slice A0 l0.length c0] rfl ?_; (with_reducible refine (impl_MatrixOk.calls k _ _ l0 true _ ?side1 ?side2 A3.out).mono ?_); (case side1 => exact Cz ((Kd.C_below HR0.out HB.out))); (case side2 => exact HC0.out); rintro e w' ⟨rfl, ⟨nd, rfl⟩⟩; refine ⟨_, rfl, ?_⟩))
   go_meet
   case rel => exact ⟨_, (((l0.length : Int) == 0)), eqA, H', ⟨by first | omega | exact Nat.le_refl _⟩, ⟨by exact Lz HB⟩⟩
  replace c4 := Bool.eq_false_iff.mpr c4
  subst c4
  have H1 : (impl_InvariantFactors.j0 k l0 true) = some r := by rw [if_neg (show ¬ (false = true) by decide)] at H; exact H
  clear H
  have H := H1
  clear H1
  have H' := Aside0.mk H
  clear H
  go_wp2_with (first | ((with_reducible refine gate_callee (f := 59) rfl ?_); refine goesM_ (some 10) rfl rfl Try.func59 (by kernel_rfl) rfl #[.slice A0 l0.length c0] rfl ?_; (with_reducible refine (impl_MatrixOk.calls k _ _ l0 false _ ?side1 ?side2 A3.out).mono ?_); (case side1 => exact Cz ((Kd.C_below HR0.out HB.out))); (case side2 => exact HC0.out); rintro e w' ⟨rfl, ⟨nd, rfl⟩⟩; refine ⟨_, rfl, ?_⟩))
  go_meet
  case rel => exact ⟨_, (true), eqA, H', ⟨by first | omega | exact Nat.le_refl _⟩, ⟨by exact Lz HB⟩⟩
 case rest =>
  clear HC2
  try clear c4
  obtain ⟨kq, x16_1, rfl, HA, HJ1, HB⟩ := hcut
  cases kq with
  | zero => exact absurd HA.out (by simp [impl_InvariantFactors.j0])
  | succ kj1 =>
   have H := HA.out
   clear HA
   simp only [impl_InvariantFactors.j0] at H
   by_cases c5 : x16_1 = true
   ·subst c5
    have H1 : (some ([] : List Int)) = some r := by rw [if_pos rfl] at H; exact H
    clear H
    have H := H1
    clear H1
    obtain rfl := Option.some.inj H
    go_wp2
    go_ret
    exact ⟨_, by first | rfl | (simp [errW_none, errW_some] <;> rfl) | (simp [*, errW_none, errW_some] <;> rfl), by first | exact Kd.R_nil _ _ _ _ _ | exact Kd.N_nil _ _ _ _ _ | exact Kd.V_nil _ _ _ _ _ | exact Kd.Q_nil _ _ _ _ _ | exact Kd.S_nil _ _ _ _ _, by exact Lz HB⟩
   replace c5 := Bool.eq_false_iff.mpr c5
   subst c5
   have H1 : (if 0 ≤ (wrap64 ((l0.length : Int) + 1)) then (if (wrap64 ((l0.length : Int) + 1) : Int).toNat ≤ 35184372088832 then (impl_InvariantFactors.l0 kj1 l0 (List.replicate (wrap64 ((l0.length : Int) + 1) : Int).toNat 0) 0) else (none)) else (none)) = some r := by rw [if_neg (show ¬ (false = true) by decide)] at H; exact H
   clear H
   have H := H1
   clear H1
   obtain ⟨ji6, hji6⟩ : ∃ j_ : Int, (wrap64 ((l0.length : Int) + 1)) = j_ := ⟨_, rfl⟩
   replace H : (if 0 ≤ (ji6) then (if (ji6 : Int).toNat ≤ 35184372088832 then (impl_InvariantFactors.l0 kj1 l0 (List.replicate (ji6 : Int).toNat 0) 0) else (none)) else (none)) = some r := by first | (rw [hji6] at H; exact H) | (simp only [hji6] at H ⊢; exact H)
   have hji6w : (IntKind.i64.wrap ((l0.length : Int) + 1)) = ji6 := (i64_w _).trans hji6
   by_cases c7 : 0 ≤ (ji6)
   ·rw [if_pos c7] at H
    have c7b0 := eq_true c7
    have c7b1 : decide (0 ≤ (ji6)) = true := decide_eq_true c7
    clear c7
    by_cases c8 : (ji6 : Int).toNat ≤ 35184372088832
    ·rw [if_pos c8] at H
     have c8b0 := eq_true c8
     have c8b1 : decide ((ji6 : Int).toNat ≤ 35184372088832) = true := decide_eq_true c8
     clear c8
     obtain ⟨y539, hy539⟩ : ∃ y_ : List Int, y_ = (List.replicate (ji6 : Int).toNat 0) := ⟨_, rfl⟩
     replace H : (impl_InvariantFactors.l0 kj1 l0 y539 0) = some r := by first | (rw [hy539]; with_reducible exact H) | (have H2_ := (Option.bind_some _ _).symm.trans H; rw [hy539]; with_reducible exact H2_) | (have H2_ := (Option.bind_some _ _).symm.trans H; with_reducible exact H2_) | with_reducible exact H | (rw [hy539]; exact H) | exact H
     have Ny539 := Aside0.mk hy539
     clear hy539
     have H' := Aside0.mk H
     clear H
     go_wp2_with (first | ((with_reducible refine gate_dst (N := 20) rfl ?_); (try (refine gate_guard (by rfl) ?_; dsimp only)); refine Kd.R_make (Kd.int .i64) _ 3 rfl (N := 20) rfl 37 _ _ rfl ji6 rfl rfl Try.underlying37 (.int .i64 0) 8 info3 rfl (by decide) (by omega) 0 (ok := fun _ => True) (okp := fun _ => True) rfl (fun _ hk => hk) trivial (ofA) (Nat.le_trans (Nat.mul_le_mul_right _ (ofA : ji6.toNat ≤ 35184372088832)) (by omega)) (Below.refl _ _) (Nat.le_refl _) ?_; intro v540 w9 ho10 hb hg_ hnew_; clear hg_ hnew_; (first | rw [← Ny539.out] at ho10 | (simp only [Int.reduceToNat] at ho10; rw [← Ny539.out] at ho10)); have HO541 := Aside0.mk (Kd.R_lower ho10 (below_size (Lz HB))); replace HB := Aside0.mk (below_step (Lz HB) hb); clear hb ho10))
     go_loopg [4] kj1 (fun kq v4 w' => ∃ (x3_2 : List Int) (x4_2 : Int), v4 = .int .i64 x4_2 ∧ Aside0 (impl_InvariantFactors.l0 kq l0 x3_2 x4_2 = some r) ∧ Aside0 (kq ≤ kj1) ∧ Aside0 (Kd.R (Kd.int .i64) 3 w' w.heap.size (fun _ => True) v540 x3_2) ∧ Aside0 (Below w.heap.size w w'))
     case atStart => exact ⟨(y539), (0), eqA, H', ⟨Nat.le_refl _⟩, ⟨by exact Rz HO541⟩, ⟨by exact Lz HB⟩⟩
     case round =>
      clear H'
      try clear c4
      try clear c5
      try clear c7
      try clear c7b0
      try clear c7b1
      try clear c8
      try clear c8b0
      try clear c8b1
      obtain ⟨x3_2, x4_2, rfl, HA, HK2, HO_3, HB⟩ := hrel
      cases gk with
      | zero => exact absurd HA.out (by simp [impl_InvariantFactors.l0])
      | succ k2 =>
       have H := HA.out
       clear HA
       simp only [impl_InvariantFactors.l0] at H
       obtain ⟨ji11, hji11⟩ : ∃ j_ : Int, (shl .i64 1 (l0.length : Int)) = j_ := ⟨_, rfl⟩
       replace H : (if x4_2 < (ji11) then ((impl_bitsOf.f k2 x4_2).bind fun t542 => (impl_InvariantFactors.l1 k2 l0 x3_2 x4_2 t542 0)) else (impl_InvariantFactors.l2 k2 x3_2 ([] : List Int) (l0.length : Int) 0)) = some r := by first | (rw [hji11] at H; exact H) | (simp only [hji11] at H ⊢; exact H)
       have hji11_ : (IntKind.i64.wrap (1 * 2 ^ min (l0.length : Int).toNat 64)) = ji11 := hji11
       have hji11z : (l0.length : Int) ≤ 64 → (IntKind.i64.wrap (1 * 2 ^ (l0.length : Int).toNat)) = ji11 := shl_small hji11
       have hji11p : (IntKind.i64.wrap (1 * 2 ^ min l0.length 64)) = ji11 := hji11_
       have hji11q : (l0.length : Int) ≤ 64 → (IntKind.i64.wrap (1 * 2 ^ l0.length)) = ji11 := hji11z
       have hji11r : (IntKind.i64.wrap (2 ^ min l0.length 64)) = ji11 := by have h_ := hji11p; rw [Int.one_mul] at h_; exact h_
       have hji11s : (l0.length : Int) ≤ 64 → (IntKind.i64.wrap (2 ^ l0.length)) = ji11 := fun hle_ => by have h_ := hji11q hle_; rw [Int.one_mul] at h_; exact h_
       have hji11u : (IntKind.i64.wrap (2 ^ min (l0.length : Int).toNat 64)) = ji11 := by have h_ := hji11_; rw [Int.one_mul] at h_; exact h_
       have hji11v : (l0.length : Int) ≤ 64 → (IntKind.i64.wrap (2 ^ (l0.length : Int).toNat)) = ji11 := fun hle_ => by have h_ := hji11z hle_; rw [Int.one_mul] at h_; exact h_
       have hji11y : (wrap64 (1 * 2 ^ min (l0.length : Int).toNat 64)) = ji11 := (i64_w _).symm.trans hji11_
       have hji11x : (l0.length : Int) ≤ 64 → (wrap64 (1 * 2 ^ (l0.length : Int).toNat)) = ji11 := fun h_ => (i64_w _).symm.trans (hji11z h_)
       by_cases c12 : x4_2 < (ji11)
       ·rw [if_pos c12] at H
        have c12b0 : decide (x4_2 < (ji11)) = true := decide_eq_true c12
        clear c12
        replace H := Option.bind_eq_some_iff.mp H
        obtain ⟨t542, A130, H⟩ := H
        replace H : (impl_InvariantFactors.l1 k2 l0 x3_2 x4_2 t542 0) = some r := H
        have A13 := Aside0.mk A130
        clear A130
        have H' := Aside0.mk H
        clear H
        go_wp2_with (first | ((with_reducible refine gate_callee (f := 60) rfl ?_); refine goesM_ (some 29) rfl rfl Try.func60 (by kernel_rfl) rfl #[.int .i64 x4_2] rfl ?_; (with_reducible refine (impl_bitsOf.calls k2 x4_2 t542 _ A13.out).mono ?_); rintro e w14 ⟨v543, rfl, ho0, hb⟩; refine ⟨_, rfl, ?_⟩; have HO544 := Aside0.mk (Kd.R_lower (Kd.R_new' ho0 (Kd.R_lt (Rz HO_3))) (below_size (Lz HB))); replace HO_3 := Aside0.mk (Kd.R_elder' (Rz HO_3) (Kd.R_base ho0) hb); replace HB := Aside0.mk (below_step (Lz HB) hb); (try clear hb); (try clear ho0)))
        go_loopg [6] k2 (fun kq v6 w' => ∃ (x3_3 : List Int) (x6_3 : Int), v6 = .int .i64 x6_3 ∧ Aside0 (impl_InvariantFactors.l1 kq l0 x3_3 x4_2 t542 x6_3 = some r) ∧ Aside0 (kq ≤ k2) ∧ Aside0 (Kd.R (Kd.int .i64) 3 w' w.heap.size (fun k_ => some k_ ≠ (v543 : Value).ownBlock) v540 x3_3) ∧ Aside0 (Kd.R (Kd.int .i64) 3 w' w.heap.size (fun k_ => some k_ ≠ (v540 : Value).ownBlock) v543 t542) ∧ Aside0 (Below w.heap.size w w'))
        case atStart => exact ⟨(x3_2), (0), eqA, H', ⟨Nat.le_refl _⟩, ⟨by (with_reducible repeat (first | apply Kd.R_alloc | apply Kd.R_drewN | apply Kd.R_drew)); exact Kd.R_mono HO_3.out (fun _ hk => hk.2)⟩, ⟨by (with_reducible repeat (first | apply Kd.R_alloc | apply Kd.R_drewN | apply Kd.R_drew)); exact Kd.R_mono HO544.out (fun _ hk => hk.2)⟩, ⟨by exact Lz HB⟩⟩
        case round =>
         clear H'
         try clear c4
         try clear c5
         try clear c7
         try clear c7b0
         try clear c7b1
         try clear c8
         try clear c8b0
         try clear c8b1
         try clear c12
         try clear c12b0
         obtain ⟨x3_3, x6_3, rfl, HA, HK3, HO_3, HO_5, HB⟩ := hrel
         cases gk with
         | zero => exact absurd HA.out (by simp [impl_InvariantFactors.l1])
         | succ k3 =>
          have H := HA.out
          clear HA
          simp only [impl_InvariantFactors.l1] at H
          (try clear hji11z; try clear hji11q; try clear hji11s; try clear hji11v; try clear hji11x; try clear hji11p; try clear hji11r; try clear hji11u; try clear hji11y; try clear hji11_; try clear hji11)
          obtain ⟨ji15, hji15⟩ : ∃ j_ : Int, (shl .i64 1 (l0.length : Int)) = j_ := ⟨_, rfl⟩
          replace H : (if x6_3 < (ji15) then ((impl_bitsOf.f k3 x6_3).bind fun t545 => (if (t545.length : Int) = (t542.length : Int) then (if 0 ≤ (t542.length : Int) then (if (t542.length : Int) < (x3_3.length : Int) then ((impl_determinant.f k3 l0 t542 x6_3).bind fun t549 => ((impl_divisor.f k3 (rd x3_3 (t542.length : Int)) t549).bind fun t550 => (impl_InvariantFactors.l1 k3 l0 (x3_3.set ((t542.length : Int) : Int).toNat t550) x4_2 t542 (wrap64 (x6_3 + 1))))) else (none)) else (none)) else (impl_InvariantFactors.l1 k3 l0 x3_3 x4_2 t542 (wrap64 (x6_3 + 1))))) else (impl_InvariantFactors.l0 k3 l0 x3_3 (wrap64 (x4_2 + 1)))) = some r := by first | (rw [hji15] at H; exact H) | (simp only [hji15] at H ⊢; exact H)
          have hji15_ : (IntKind.i64.wrap (1 * 2 ^ min (l0.length : Int).toNat 64)) = ji15 := hji15
          have hji15z : (l0.length : Int) ≤ 64 → (IntKind.i64.wrap (1 * 2 ^ (l0.length : Int).toNat)) = ji15 := shl_small hji15
          have hji15p : (IntKind.i64.wrap (1 * 2 ^ min l0.length 64)) = ji15 := hji15_
          have hji15q : (l0.length : Int) ≤ 64 → (IntKind.i64.wrap (1 * 2 ^ l0.length)) = ji15 := hji15z
          have hji15r : (IntKind.i64.wrap (2 ^ min l0.length 64)) = ji15 := by have h_ := hji15p; rw [Int.one_mul] at h_; exact h_
          have hji15s : (l0.length : Int) ≤ 64 → (IntKind.i64.wrap (2 ^ l0.length)) = ji15 := fun hle_ => by have h_ := hji15q hle_; rw [Int.one_mul] at h_; exact h_
          have hji15u : (IntKind.i64.wrap (2 ^ min (l0.length : Int).toNat 64)) = ji15 := by have h_ := hji15_; rw [Int.one_mul] at h_; exact h_
          have hji15v : (l0.length : Int) ≤ 64 → (IntKind.i64.wrap (2 ^ (l0.length : Int).toNat)) = ji15 := fun hle_ => by have h_ := hji15z hle_; rw [Int.one_mul] at h_; exact h_
          have hji15y : (wrap64 (1 * 2 ^ min (l0.length : Int).toNat 64)) = ji15 := (i64_w _).symm.trans hji15_
          have hji15x : (l0.length : Int) ≤ 64 → (wrap64 (1 * 2 ^ (l0.length : Int).toNat)) = ji15 := fun h_ => (i64_w _).symm.trans (hji15z h_)
          by_cases c16 : x6_3 < (ji15)
          ·rw [if_pos c16] at H
           have c16b0 : decide (x6_3 < (ji15)) = true := decide_eq_true c16
           clear c16
           replace H := Option.bind_eq_some_iff.mp H
           obtain ⟨t545, A170, H⟩ := H
           replace H : (if (t545.length : Int) = (t542.length : Int) then (if 0 ≤ (t542.length : Int) then (if (t542.length : Int) < (x3_3.length : Int) then ((impl_determinant.f k3 l0 t542 x6_3).bind fun t549 => ((impl_divisor.f k3 (rd x3_3 (t542.length : Int)) t549).bind fun t550 => (impl_InvariantFactors.l1 k3 l0 (x3_3.set ((t542.length : Int) : Int).toNat t550) x4_2 t542 (wrap64 (x6_3 + 1))))) else (none)) else (none)) else (impl_InvariantFactors.l1 k3 l0 x3_3 x4_2 t542 (wrap64 (x6_3 + 1)))) = some r := H
           have A17 := Aside0.mk A170
           clear A170
           by_cases c18 : (t545.length : Int) = (t542.length : Int)
           ·rw [if_pos c18] at H
            have c18b0 : ((t545.length : Int) == (t542.length : Int)) = true := beq_iff_eq.mpr c18
            have c18b1 : ((t545.length : Int) != (t542.length : Int)) = false := bne_eq_false_iff_eq.mpr c18
            have c18b2 : (t545.length == t542.length) = true := by first | simpa using c18 | (simp at c18 ⊢; omega)
            clear c18
            by_cases c19 : 0 ≤ (t542.length : Int)
            ·rw [if_pos c19] at H
             have c19b0 : decide (0 ≤ (t542.length : Int)) = true := decide_eq_true c19
             have c19b1 : decide (0 ≤ t542.length) = true := decide_eq_true (by omega)
             clear c19
             by_cases c20 : (t542.length : Int) < (x3_3.length : Int)
             ·rw [if_pos c20] at H
              have c20b0 : decide ((t542.length : Int) < (x3_3.length : Int)) = true := decide_eq_true c20
              have c20b1 : decide (t542.length < x3_3.length) = true := decide_eq_true (Int.ofNat_lt.mp c20)
              clear c20
              replace H := Option.bind_eq_some_iff.mp H
              obtain ⟨t549, A210, H⟩ := H
              replace H : ((impl_divisor.f k3 (rd x3_3 (t542.length : Int)) t549).bind fun t550 => (impl_InvariantFactors.l1 k3 l0 (x3_3.set ((t542.length : Int) : Int).toNat t550) x4_2 t542 (wrap64 (x6_3 + 1)))) = some r := H
              have A21 := Aside0.mk A210
              clear A210
              replace H := Option.bind_eq_some_iff.mp H
              obtain ⟨t550, A220, H⟩ := H
              replace H : (impl_InvariantFactors.l1 k3 l0 (x3_3.set ((t542.length : Int) : Int).toNat t550) x4_2 t542 (wrap64 (x6_3 + 1))) = some r := H
              have A22 := Aside0.mk A220
              clear A220
              obtain ⟨y551, hy551⟩ : ∃ y_ : List Int, y_ = (x3_3.set ((t542.length : Int) : Int).toNat t550) := ⟨_, rfl⟩
              replace H : (impl_InvariantFactors.l1 k3 l0 y551 x4_2 t542 (wrap64 (x6_3 + 1))) = some r := by first | (rw [hy551]; with_reducible exact H) | (have H2_ := (Option.bind_some _ _).symm.trans H; rw [hy551]; with_reducible exact H2_) | (have H2_ := (Option.bind_some _ _).symm.trans H; with_reducible exact H2_) | with_reducible exact H | (rw [hy551]; exact H) | exact H
              have Ny551 := Aside0.mk hy551
              clear hy551
              have H' := Aside0.mk H
              clear H
              try go_wp2_with (first | ((with_reducible refine gate_callee (f := 60) rfl ?_); refine goesM_ (some 38) rfl rfl Try.func60 (by kernel_rfl) rfl #[.int .i64 x6_3] rfl ?_; (with_reducible refine (impl_bitsOf.calls k3 x6_3 t545 _ A17.out).mono ?_); rintro e w24 ⟨v546, rfl, ho0, hb⟩; refine ⟨_, rfl, ?_⟩; have HO547 := Aside0.mk (Kd.R_lower (Kd.R_new' (Kd.R_new' ho0 (Kd.R_lt (Rz HO_3))) (Kd.R_lt (Rz HO_5))) (below_size (Lz HB))); replace HO_3 := Aside0.mk (Kd.R_elder' (Rz HO_3) (Kd.R_base ho0) hb); replace HO_5 := Aside0.mk (Kd.R_elder' (Rz HO_5) (Kd.R_base ho0) hb); replace HB := Aside0.mk (below_step (Lz HB) hb); (try clear hb); (try clear ho0); obtain ⟨Ao25, co25, eo25⟩ := Kd.R_slice HO547.out; subst eo25; obtain ⟨Ao26, co26, eo26⟩ := Kd.R_slice HO_5.out; subst eo26))
              replace HO_3 := Aside0.mk (Kd.R_drew HO_3.out)
              replace HO_5 := Aside0.mk (Kd.R_drew HO_5.out)
              replace HO547 := Aside0.mk (Kd.R_drew HO547.out)
              replace HB := Aside0.mk (below_drew1 HB.out)
              obtain ⟨Ao28, co28, eo28⟩ := Kd.R_slice HO_3.out
              (first | subst eo28 | (injection eo28 with f1_ f2_ f3_; have f4_ := f1_.symm; have f5_ := f3_.symm; clear f1_ f2_ f3_; subst f4_; subst f5_))
              have p548 : 0 ≤ ((t542.length : Int) : Int) := ofA
              have q548 : (t542.length : Int) < (x3_3.length : Int) := ofA
              obtain ⟨ad548, e548, hx548_0⟩ := Kd.at_int (Kd.R_reads' HO_3.out).2.2 (t542.length : Int) p548 q548
              cases e548
              (try simp only [Go.IntWalk.toNatUp] at hx548_0)
              replace p548 := eq_true p548
              replace q548 := eq_true q548
              refine start_ (n := 15) (S := fun w' => w'.cell? (ad548.add ((t542.length : Int)).toNat) = some (.int .i64 (rd x3_3 (t542.length : Int)))) (ds := [14]) #[false, false, false, false, false, false, false, false, false, false, false, false, false, false, false] (by kernel_rfl) rfl rfl (hx548_0) (fun hHeld => ?_); refine with_tabW impl_InvariantFactors.tab12 impl_InvariantFactors.bits12 (fun HT_ HW_ => ?_)
              generalize w24.drew = w27 at HO_3 HO_5 HO547 HB hx548_0 hHeld ⊢
              refine pureT_ 0 43 HT_ ?_
              refine pureT_ 1 44 HT_ ?_
              refine pureT_ 2 45 HT_ ?_
              refine pureT_ 3 46 HT_ ?_
              refine pureT_ 4 47 HT_ ?_
              refine pureT_ 5 48 HT_ ?_
              refine pureT_ 6 49 HT_ ?_
              refine pureT_ 8 51 HT_ ?_
              refine pureT_ 9 52 HT_ ?_
              refine pureT_ 10 53 HT_ ?_
              refine take_ (i := 7) (N := some 50) (v := ?_) (a' := ?_) #[true, true, true, true, true, true, true, true, true, true, true, false, false, false, false] rfl rfl (take_ofW HT_.out HW_.out (by kernel_rfl)) (fun _ _ _ h => h) (Or.inl ⟨by rfl, ?_⟩) hHeld ?_ ?_
              rotate_left
              ·intro w' s0
               (try simp only [Int.toNat_natCast] at s0)
               go_simp
               with_reducible rfl
              rotate_left
              ·simp only [Act.put, List.setIfInBounds_toArray, List.set_cons_zero, List.set_cons_succ, i64_w, i32_w]
               rfl
              refine one_ (i := 11) (N := some 54) #[true, true, true, true, true, true, true, true, true, true, true, true, false, false, false] rfl rfl (one_of HT_.out (by kernel_rfl)) (by decide) (fun K hK => ?_)
              refine goes_ Try.func62 (by kernel_rfl) rfl #[.slice A0 l0.length c0, .slice Ao26 t542.length co26, .int .i64 x6_3] (by rfl) rfl rfl (by (try simp only [List.map_toArray, List.map_cons, List.map_nil]); first | done | rfl | (simp only [List.length_drop, List.length_take]; rfl)) ?_
              with_reducible refine (impl_determinant.calls k3 _ _ l0 _ _ t542 x6_3 t549 _ ?side1 ?side2 ?side3 ?side4 A21.out).mono ?_
              (case side1 => exact Cz ((Kd.C_below HR0.out HB.out)))
              (case side2 => exact HC0.out)
              (case side3 => exact Cz ((Kd.R_reads' HO_5.out).2.2))
              (case side4 => exact (Kd.R_reads' HO_5.out).2.1)
              rintro e w29 ⟨rfl, hb⟩
              have HS0_ := (hb.cell (World.block_lt_of_cell? _ _ (hHeld))).trans (hHeld)
              refine ⟨_, rfl, ?_⟩
              replace HO_3 := Aside0.mk (Kd.R_below (Rz HO_3) hb)
              replace HO_5 := Aside0.mk (Kd.R_below (Rz HO_5) hb)
              replace HO547 := Aside0.mk (Kd.R_below (Rz HO547) hb)
              replace HB := Aside0.mk (below_step (Lz HB) hb)
              (try clear hb)
              (try clear hb2)
              (try clear hk)
              (try clear hi)
              refine hK.out _ _ (HS0_) (fun hHeld => ?_)
              clear hK K
              refine norm_ (a' := ?_) ?_ ?_
              rotate_left
              ·show Act.put _ (some 54) _ = _
               simp only [Act.put, List.setIfInBounds_toArray, List.set_cons_zero, List.set_cons_succ, i64_w, i32_w]
               rfl
              refine one_ (i := 12) (N := some 55) #[true, true, true, true, true, true, true, true, true, true, true, true, true, false, false] rfl rfl (one_of HT_.out (by kernel_rfl)) (by decide) (fun K hK => ?_)
              refine goes_ Try.func61 (by kernel_rfl) rfl #[.int .i64 (rd x3_3 (t542.length : Int)), .int .i64 t549] (by rfl) rfl rfl (by (try simp only [List.map_toArray, List.map_cons, List.map_nil]); first | done | rfl | (simp only [List.length_drop, List.length_take]; rfl)) ?_
              with_reducible refine (impl_divisor.calls k3 (rd x3_3 (t542.length : Int)) t549 t550 _ A22.out).mono ?_
              rintro e w30 ⟨rfl, hb⟩
              have HS0_ := (hb.cell (World.block_lt_of_cell? _ _ (hHeld))).trans (hHeld)
              refine ⟨_, rfl, ?_⟩
              replace HO_3 := Aside0.mk (Kd.R_below (Rz HO_3) hb)
              replace HO_5 := Aside0.mk (Kd.R_below (Rz HO_5) hb)
              replace HO547 := Aside0.mk (Kd.R_below (Rz HO547) hb)
              replace HB := Aside0.mk (below_step (Lz HB) hb)
              (try clear hb)
              (try clear hb2)
              (try clear hk)
              (try clear hi)
              have p23 : 0 ≤ ((t542.length : Int) : Int) := ofA
              have q23 : ((t542.length : Int) : Int) < ((x3_3.length : Int) : Int) := ofA
              obtain ⟨go23, co23, eo23, gb23, gl23, cl23, HG23⟩ := Kd.R_form HO_3.out (by omega)
              (first | cases eo23 | (injection eo23 with ea_ en_ ec_; (first | subst ea_ | (injection ea_ with ea_; subst ea_)); subst ec_; clear en_))
              have GB23 := Aside0.mk gb23
              have GG23 := Aside0.mk HG23
              clear gb23 gl23 HG23
              (first | simp only [add_plain] at hx548_0 | skip)
              obtain ⟨hx23_0, hf23_0⟩ := Kd.R_celln 0 HO_3.out ((t542.length : Int) : Int) p23 q23
              (try simp only [Int.toNat_natCast] at hx23_0 hf23_0)
              replace p23 := eq_true p23
              replace q23 := eq_true q23
              have HP31 := Kd.R_putn HO_3.out ((t542.length : Int) : Int) t550
              rw [← Ny551.out] at HP31
              (try simp only [Int.toNat_natCast] at HP31)
              have HQ31 := Aside0.mk HP31
              clear HP31
              refine hK.out _ _ (HS0_) (fun hHeld => ?_)
              clear hK K
              refine norm_ (a' := ?_) ?_ ?_
              rotate_left
              ·show Act.put _ (some 55) _ = _
               simp only [Act.put, List.setIfInBounds_toArray, List.set_cons_zero, List.set_cons_succ, i64_w, i32_w]
               rfl
              refine pureT_ 13 56 HT_ ?_
              refine last_ (i := 14) (N := none) #[true, true, true, true, true, true, true, true, true, true, true, true, true, true, true] rfl rfl (one_of HT_.out (by kernel_rfl)) (by decide) (fun K hK => ?_)
              refine skip_ (w1 := ?_) (by rfl) rfl ?_ ?_
              rotate_left
              ·go_simp
               rfl
              refine hK.out _ _ ?_
              clear hK K
              refine done_ (done_of HT_.out (by kernel_rfl)) ?_
              try go_wp2
              go_roundg k3
              case measure => have := HJ1.out; have := HK2.out; have := HK3.out; omega
              case rel => exact ⟨(y551), (wrap64 (x6_3 + 1)), eqA, H', ⟨by have := HJ1.out; have := HK2.out; have := HK3.out; omega⟩, ⟨by (with_reducible repeat (first | apply Kd.R_alloc | apply Kd.R_drewN | apply Kd.R_drew)); exact Kd.R_mono HQ31.out (fun _ hk => hk.1)⟩, ⟨by (with_reducible repeat (first | apply Kd.R_alloc | apply Kd.R_drewN | apply Kd.R_drew)); exact Kd.R_mono (Kd.R_far (p := ⟨go23, ((t542.length : Int) : Int).toNat, none⟩) (Kd.R_mono HO_5.out (fun k_ hk => (⟨hk, fun e_ => hk.1 (by rw [e_]; rfl)⟩ : _ ∧ k_ ≠ go23))) (fun _ hk => hk.2) (.int .i64 t550)) (fun _ hk => hk.1.1)⟩, ⟨by exact Lz1 HB GB23⟩⟩
             rw [if_neg c20] at H
             exact absurd H (by simp)
            rw [if_neg c19] at H
            exact absurd H (by simp)
           rw [if_neg c18] at H
           have c18b0 : ((t545.length : Int) == (t542.length : Int)) = false := beq_eq_false_iff_ne.mpr c18
           have c18b1 : ((t545.length : Int) != (t542.length : Int)) = true := bne_iff_ne.mpr c18
           have c18b2 : (t545.length == t542.length) = false := by first | simpa using c18 | (simp at c18 ⊢; omega)
           have H' := Aside0.mk H
           clear H
           go_wp2_with (first | ((with_reducible refine gate_callee (f := 60) rfl ?_); refine goesM_ (some 38) rfl rfl Try.func60 (by kernel_rfl) rfl #[.int .i64 x6_3] rfl ?_; (with_reducible refine (impl_bitsOf.calls k3 x6_3 t545 _ A17.out).mono ?_); rintro e w32 ⟨v546, rfl, ho0, hb⟩; refine ⟨_, rfl, ?_⟩; have HO547 := Aside0.mk (Kd.R_lower (Kd.R_new' (Kd.R_new' ho0 (Kd.R_lt (Rz HO_3))) (Kd.R_lt (Rz HO_5))) (below_size (Lz HB))); replace HO_3 := Aside0.mk (Kd.R_elder' (Rz HO_3) (Kd.R_base ho0) hb); replace HO_5 := Aside0.mk (Kd.R_elder' (Rz HO_5) (Kd.R_base ho0) hb); replace HB := Aside0.mk (below_step (Lz HB) hb); (try clear hb); (try clear ho0); obtain ⟨Ao33, co33, eo33⟩ := Kd.R_slice HO547.out; subst eo33; obtain ⟨Ao34, co34, eo34⟩ := Kd.R_slice HO_5.out; subst eo34))
           go_roundg k3
           case measure => have := HJ1.out; have := HK2.out; have := HK3.out; omega
           case rel => exact ⟨(x3_3), (wrap64 (x6_3 + 1)), eqA, H', ⟨by have := HJ1.out; have := HK2.out; have := HK3.out; omega⟩, ⟨by (with_reducible repeat (first | apply Kd.R_alloc | apply Kd.R_drewN | apply Kd.R_drew)); exact Kd.R_mono HO_3.out (fun _ hk => hk.1)⟩, ⟨by (with_reducible repeat (first | apply Kd.R_alloc | apply Kd.R_drewN | apply Kd.R_drew)); exact Kd.R_mono HO_5.out (fun _ hk => hk.1)⟩, ⟨by exact Lz HB⟩⟩
          rw [if_neg c16] at H
          have c16b0 : decide (x6_3 < (ji15)) = false := decide_eq_false c16
          clear c16
          have H' := Aside0.mk H
          clear H
          go_wp2
          go_roundg k3
          case measure => have := HJ1.out; have := HK2.out; have := HK3.out; omega
          case rel => exact ⟨(x3_3), (wrap64 (x4_2 + 1)), eqA, H', ⟨by have := HJ1.out; have := HK2.out; have := HK3.out; omega⟩, ⟨by (with_reducible repeat (first | apply Kd.R_alloc | apply Kd.R_drewN | apply Kd.R_drew)); exact Kd.R_mono HO_3.out (fun _ hk => trivial)⟩, ⟨by exact Lz HB⟩⟩
       rw [if_neg c12] at H
       have c12b0 : decide (x4_2 < (ji11)) = false := decide_eq_false c12
       clear c12
       have H' := Aside0.mk H
       clear H
       go_wp2
       go_loopg [7, 59] k2 (fun kq v7 v59 w' => ∃ (x7_3 : List Int) (x59_3 : Int), v59 = .int .i64 x59_3 ∧ Aside0 (impl_InvariantFactors.l2 kq x3_2 x7_3 (l0.length : Int) x59_3 = some r) ∧ Aside0 (kq ≤ k2) ∧ Aside0 (Kd.R (Kd.int .i64) 3 w' w.heap.size (fun k_ => some k_ ≠ (v7 : Value).ownBlock) v540 x3_2) ∧ Aside0 (Kd.R (Kd.int .i64) 3 w' w.heap.size (fun k_ => some k_ ≠ (v540 : Value).ownBlock) v7 x7_3) ∧ Aside0 (Below w.heap.size w w'))
       case atStart => exact ⟨(([] : List Int)), (0), eqA, H', ⟨Nat.le_refl _⟩, ⟨by (with_reducible repeat (first | apply Kd.R_alloc | apply Kd.R_drewN | apply Kd.R_drew)); exact Kd.R_mono HO_3.out (fun _ hk => (by simp [Value.ownBlock]))⟩, ⟨by first | exact Kd.R_nil _ _ _ _ _ | exact Kd.N_nil _ _ _ _ _ | exact Kd.V_nil _ _ _ _ _ | exact Kd.Q_nil _ _ _ _ _ | exact Kd.S_nil _ _ _ _ _⟩, ⟨by exact Lz HB⟩⟩
       case round =>
        clear H'
        try clear c4
        try clear c5
        try clear c7
        try clear c7b0
        try clear c7b1
        try clear c8
        try clear c8b0
        try clear c8b1
        try clear c12
        try clear c12b0
        try clear c16
        try clear c16b0
        try clear c18
        try clear c18b0
        try clear c18b1
        try clear c18b2
        try clear c19
        try clear c19b0
        try clear c19b1
        try clear c20
        try clear c20b0
        try clear c20b1
        try clear p23
        try clear q23
        try clear p23
        try clear p548
        try clear q23
        try clear q548
        obtain ⟨x7_3, x59_3, rfl, HA, HK3, HO_3, HO_7, HB⟩ := hrel
        cases gk with
        | zero => exact absurd HA.out (by simp [impl_InvariantFactors.l2])
        | succ k3 =>
         have H := HA.out
         clear HA
         simp only [impl_InvariantFactors.l2] at H
         by_cases c35 : x59_3 < (l0.length : Int)
         ·rw [if_pos c35] at H
          have c35b0 : decide (x59_3 < (l0.length : Int)) = true := decide_eq_true c35
          clear c35
          obtain ⟨ji36, hji36⟩ : ∃ j_ : Int, (wrap64 (x59_3 + 1)) = j_ := ⟨_, rfl⟩
          replace H : (if 0 ≤ (ji36) then (if (ji36) < (x3_2.length : Int) then (if (rd x3_2 (ji36)) = 0 then (if x7_3.length < 17592186044416 then (impl_InvariantFactors.l2 k3 x3_2 (x7_3 ++ [0]) (l0.length : Int) ji36) else (none)) else (if 0 ≤ x59_3 then (if x59_3 < (x3_2.length : Int) then (if (rd x3_2 x59_3) = 0 then (none) else (if x7_3.length < 17592186044416 then (impl_InvariantFactors.l2 k3 x3_2 (x7_3 ++ [wrap64 (Int.tdiv (rd x3_2 (ji36)) (rd x3_2 x59_3))]) (l0.length : Int) ji36) else (none))) else (none)) else (none))) else (none)) else (none)) = some r := by first | (rw [hji36] at H; exact H) | (simp only [hji36] at H ⊢; exact H)
          have hji36w : (IntKind.i64.wrap (x59_3 + 1)) = ji36 := (i64_w _).trans hji36
          by_cases c37 : 0 ≤ (ji36)
          ·rw [if_pos c37] at H
           have c37b0 : decide (0 ≤ (ji36)) = true := decide_eq_true c37
           clear c37
           by_cases c38 : (ji36) < (x3_2.length : Int)
           ·rw [if_pos c38] at H
            have c38b0 : decide ((ji36) < (x3_2.length : Int)) = true := decide_eq_true c38
            clear c38
            by_cases c39 : (rd x3_2 (ji36)) = 0
            ·rw [if_pos c39] at H
             have c39b0 : ((rd x3_2 (ji36)) == 0) = true := beq_iff_eq.mpr c39
             have c39b1 : ((rd x3_2 (ji36)) != 0) = false := bne_eq_false_iff_eq.mpr c39
             clear c39
             by_cases c40 : x7_3.length < 17592186044416
             ·rw [if_pos c40] at H
              have LMc40 := Aside0.mk c40
              clear c40
              obtain ⟨y553, hy553⟩ : ∃ y_ : List Int, y_ = (x7_3 ++ [0]) := ⟨_, rfl⟩
              replace H : (impl_InvariantFactors.l2 k3 x3_2 y553 (l0.length : Int) ji36) = some r := by first | (rw [hy553]; with_reducible exact H) | (have H2_ := (Option.bind_some _ _).symm.trans H; rw [hy553]; with_reducible exact H2_) | (have H2_ := (Option.bind_some _ _).symm.trans H; with_reducible exact H2_) | with_reducible exact H | (rw [hy553]; exact H) | exact H
              have Ny553 := Aside0.mk hy553
              clear hy553
              have H' := Aside0.mk H
              clear H
              obtain ⟨Ao41, co41, eo41⟩ := Kd.R_slice HO_3.out
              subst eo41
              have p552 : 0 ≤ ((ji36) : Int) := ofA
              have q552 : (ji36) < (x3_2.length : Int) := ofA
              obtain ⟨ad552, e552, hx552_0⟩ := Kd.at_int (Kd.R_reads' HO_3.out).2.2 (ji36) p552 q552
              cases e552
              replace p552 := eq_true p552
              replace q552 := eq_true q552
              go_wp2_with (first | ((with_reducible refine gate_builtin (b := .append) (xs := #[.tmp 68, .tmp 69]) rfl ?_); (try (refine gate_guard (by rfl) ?_; dsimp only)); at_builtin; refine Kd.R_append (Kd.int .i64) (w0 := w) w.heap.size rfl (.tmp 68) (.tmp 69) 37 3 (.int .i64 0) 8 rfl Try.underlying37 info3 rfl (by decide) (by omega) u7 x7_3 0 [.int .i64 0] (fun k_ => some k_ ≠ (.slice (some ad552) x3_2.length co41 : Value).ownBlock) (fun _ => False) rfl rfl ?aP (fun _ hk => hk.elim) ?aF ?aO ?aB ?aS ?aL ?_; (case aP => exact rfl); (case aB => exact (Lz HB)); (case aF => exact (fun k_ hk => Kd.fresh' (Kd.R_lt (Rz HO_3)) k_ hk)); (case aO => exact (Rz HO_7)); (case aS => exact (below_size (Lz HB))); (case aL => have := LMc40.out; omega); intro v554 w42 ho hb hg hat; rw [← Ny553.out] at ho; replace HO_3 := Aside0.mk (Kd.R_after (ok := (fun _ => True)) (by (with_reducible repeat (first | apply Kd.R_alloc | apply Kd.R_drewN | apply Kd.R_drew)); exact Kd.R_mono HO_3.out (fun _ hk => ⟨trivial, hk⟩)) hg hat); replace HB := Aside0.mk (hb); have HO555 := Aside0.mk (ho); clear HO_7; clear ho hb hg hat))
              go_roundg k3
              case measure => have := HJ1.out; have := HK2.out; have := HK3.out; omega
              case rel => exact ⟨(y553), (ji36), (by first | rfl | (simp; done) | (simp only [← hji36] <;> (first | rfl | simp)) | (simp [*]; done)), H', ⟨by have := HJ1.out; have := HK2.out; have := HK3.out; omega⟩, ⟨by (with_reducible repeat (first | apply Kd.R_alloc | apply Kd.R_drewN | apply Kd.R_drew)); exact Kd.R_mono HO_3.out (fun _ hk => hk.2)⟩, ⟨by exact Rz HO555⟩, ⟨by exact Lz HB⟩⟩
             rw [if_neg c40] at H
             exact absurd H (by simp)
            rw [if_neg c39] at H
            have c39b0 : ((rd x3_2 (ji36)) == 0) = false := beq_eq_false_iff_ne.mpr c39
            have c39b1 : ((rd x3_2 (ji36)) != 0) = true := bne_iff_ne.mpr c39
            by_cases c43 : 0 ≤ x59_3
            ·rw [if_pos c43] at H
             have c43b0 : decide (0 ≤ x59_3) = true := decide_eq_true c43
             clear c43
             by_cases c44 : x59_3 < (x3_2.length : Int)
             ·rw [if_pos c44] at H
              have c44b0 : decide (x59_3 < (x3_2.length : Int)) = true := decide_eq_true c44
              clear c44
              by_cases c45 : (rd x3_2 x59_3) = 0
              ·rw [if_pos c45] at H
               exact absurd H (by simp)
              rw [if_neg c45] at H
              have c45b0 : ((rd x3_2 x59_3) == 0) = false := beq_eq_false_iff_ne.mpr c45
              have c45b1 : ((rd x3_2 x59_3) != 0) = true := bne_iff_ne.mpr c45
              by_cases c46 : x7_3.length < 17592186044416
              ·rw [if_pos c46] at H
               have LMc46 := Aside0.mk c46
               clear c46
               obtain ⟨y558, hy558⟩ : ∃ y_ : List Int, y_ = (x7_3 ++ [wrap64 (Int.tdiv (rd x3_2 (ji36)) (rd x3_2 x59_3))]) := ⟨_, rfl⟩
               replace H : (impl_InvariantFactors.l2 k3 x3_2 y558 (l0.length : Int) ji36) = some r := by first | (rw [hy558]; with_reducible exact H) | (have H2_ := (Option.bind_some _ _).symm.trans H; rw [hy558]; with_reducible exact H2_) | (have H2_ := (Option.bind_some _ _).symm.trans H; with_reducible exact H2_) | with_reducible exact H | (rw [hy558]; exact H) | exact H
               have Ny558 := Aside0.mk hy558
               clear hy558
               have H' := Aside0.mk H
               clear H
               obtain ⟨Ao47, co47, eo47⟩ := Kd.R_slice HO_3.out
               subst eo47
               have p552 : 0 ≤ ((ji36) : Int) := ofA
               have q552 : (ji36) < (x3_2.length : Int) := ofA
               obtain ⟨ad552, e552, hx552_0⟩ := Kd.at_int (Kd.R_reads' HO_3.out).2.2 (ji36) p552 q552
               cases e552
               replace p552 := eq_true p552
               replace q552 := eq_true q552
               try go_wp2
               replace HO_3 := Aside0.mk (Kd.R_drew HO_3.out)
               replace HO_7 := Aside0.mk (Kd.R_drew HO_7.out)
               replace HB := Aside0.mk (below_drew1 HB.out)
               have p556 : 0 ≤ ((ji36) : Int) := ofA
               have q556 : (ji36) < (x3_2.length : Int) := ofA
               obtain ⟨ad556, e556, hx556_0⟩ := Kd.at_int (Kd.R_reads' HO_3.out).2.2 (ji36) p556 q556
               obtain rfl : ad552 = ad556 := (by injection e556)
               replace p556 := eq_true p556
               replace q556 := eq_true q556
               have p557 : 0 ≤ (x59_3 : Int) := ofA
               have q557 : x59_3 < (x3_2.length : Int) := ofA
               obtain ⟨ad557, e557, hx557_0⟩ := Kd.at_int (Kd.R_reads' HO_3.out).2.2 x59_3 p557 q557
               obtain rfl : ad552 = ad557 := (by injection e557)
               replace p557 := eq_true p557
               replace q557 := eq_true q557
               refine start_ (n := 14) (S := fun w' => w'.cell? (ad552.add ((ji36)).toNat) = some (.int .i64 (rd x3_2 (ji36))) ∧ w'.cell? (ad552.add (x59_3).toNat) = some (.int .i64 (rd x3_2 x59_3))) (ds := [11, 12]) #[false, false, false, false, false, false, false, false, false, false, false, false, false, false] (by kernel_rfl) rfl rfl ⟨hx556_0, hx557_0⟩ (fun hHeld => ?_); refine with_tabW impl_InvariantFactors.tab19 impl_InvariantFactors.bits19 (fun HT_ HW_ => ?_)
               generalize wr.drew = w48 at HO_3 HO_7 HB hx556_0 hx557_0 hHeld ⊢
               refine pureT_ 0 71 HT_ ?_
               refine pureT_ 1 72 HT_ ?_
               refine pureT_ 2 73 HT_ ?_
               refine pureT_ 3 74 HT_ ?_
               refine pureT_ 4 75 HT_ ?_
               refine pureT_ 6 77 HT_ ?_
               refine pureT_ 7 78 HT_ ?_
               refine pureT_ 8 79 HT_ ?_
               refine takeT_ 5 76 HT_ HW_ hHeld rfl (by rintro w' ⟨s0, s1⟩; go_simp; with_reducible rfl) ?_
               refine takeT_ 9 80 HT_ HW_ hHeld rfl (by rintro w' ⟨s0, s1⟩; go_simp; with_reducible rfl) ?_
               refine pureT_ 10 81 HT_ ?_
               refine last_ (i := 11) (N := some 82) #[true, true, true, true, true, true, true, true, true, true, true, true, false, false] rfl rfl (one_of HT_.out (by kernel_rfl)) (by decide) (fun K hK => ?_)
               refine value_ (w1 := ?_) (v := ?_) (by rfl) rfl ?_ ?_
               rotate_left 2
               ·go_simp
                constructor
                ·rfl
                ·rfl
               refine hK.out _ _ ?_
               clear hK K
               refine norm_ (a' := ?_) ?_ ?_
               rotate_left
               ·show Act.put _ (some 82) _ = _
                simp only [Act.put, List.setIfInBounds_toArray, List.set_cons_zero, List.set_cons_succ, i64_w, i32_w]
                rfl
               refine last_ (i := 12) (N := some 83) #[true, true, true, true, true, true, true, true, true, true, true, true, true, false] rfl rfl (one_of HT_.out (by kernel_rfl)) (by decide) (fun K hK => ?_)
               refine Kd.R_append_step (Kd.int .i64) (w0 := w) w.heap.size (by rfl) (.tmp 71) (.tmp 82) 37 3 (.int .i64 0) 8 rfl Try.underlying37 info3 rfl (by decide) (by omega) u7 x7_3 (wrap64 (Int.tdiv (rd x3_2 (ji36)) (rd x3_2 x59_3))) [.int .i64 (wrap64 (Int.tdiv (rd x3_2 (ji36)) (rd x3_2 x59_3)))] (fun k_ => some k_ ≠ (.slice (some ad552) x3_2.length co47 : Value).ownBlock) (fun _ => False) rfl rfl ?aP (fun _ hk => hk.elim) ?aF ?aO ?aB ?aS ?aL ?_
               (case aP => exact rfl)
               (case aB => exact (Lz HB))
               (case aF => exact (fun k_ hk => Kd.fresh' (Kd.R_lt (Rz HO_3)) k_ hk))
               (case aO => exact (Rz HO_7))
               (case aS => exact (below_size (Lz HB)))
               (case aL => have := LMc46.out; omega)
               intro v559 w49 ho hb hg hat
               rw [← Ny558.out] at ho
               replace HO_3 := Aside0.mk (Kd.R_after (ok := (fun _ => True)) (by (with_reducible repeat (first | apply Kd.R_alloc | apply Kd.R_drewN | apply Kd.R_drew)); exact Kd.R_mono HO_3.out (fun _ hk => ⟨trivial, hk⟩)) hg hat)
               replace HB := Aside0.mk (hb)
               have HO560 := Aside0.mk (ho)
               clear HO_7
               clear ho hb hg hat
               refine hK.out _ _ ?_
               clear hK K
               refine norm_ (a' := ?_) ?_ ?_
               rotate_left
               ·show Act.put _ (some 83) _ = _
                simp only [Act.put, List.setIfInBounds_toArray, List.set_cons_zero, List.set_cons_succ, i64_w, i32_w]
                rfl
               refine pureT_ 13 7 HT_ ?_
               refine done_ (done_of HT_.out (by kernel_rfl)) ?_
               try go_wp2
               go_roundg k3
               case measure => have := HJ1.out; have := HK2.out; have := HK3.out; omega
               case rel => exact ⟨(y558), (ji36), (by first | rfl | (simp; done) | (simp only [← hji36] <;> (first | rfl | simp)) | (simp [*]; done)), H', ⟨by have := HJ1.out; have := HK2.out; have := HK3.out; omega⟩, ⟨by (with_reducible repeat (first | apply Kd.R_alloc | apply Kd.R_drewN | apply Kd.R_drew)); exact Kd.R_mono HO_3.out (fun _ hk => hk.2)⟩, ⟨by exact Rz HO560⟩, ⟨by exact Lz HB⟩⟩
              rw [if_neg c46] at H
              exact absurd H (by simp)
             rw [if_neg c44] at H
             exact absurd H (by simp)
            rw [if_neg c43] at H
            exact absurd H (by simp)
           rw [if_neg c38] at H
           exact absurd H (by simp)
          rw [if_neg c37] at H
          exact absurd H (by simp)
         rw [if_neg c35] at H
         have c35b0 : decide (x59_3 < (l0.length : Int)) = false := decide_eq_false c35
         clear c35
         obtain rfl := Option.some.inj H
         go_wp2
         go_ret
         exact ⟨_, by first | rfl | (simp [errW_none, errW_some] <;> rfl) | (simp only [← hji6, ← hji11]; first | rfl | (simp [errW_none, errW_some] <;> rfl)) | (simp [*, errW_none, errW_some] <;> rfl), by (with_reducible repeat (first | apply Kd.R_alloc | apply Kd.R_drewN | apply Kd.R_drew)); exact Kd.R_mono HO_7.out (fun _ hk => trivial), by exact Lz HB⟩
    rw [if_neg c8] at H
    exact absurd H (by simp)
   rw [if_neg c7] at H
   exact absurd H (by simp)
def IsS88 (w0 W : World) (g : Nat) (f0 : List Int) (f1 : Int) (f2 : Int) : Prop := ∃ A0 c0, W.heap[g]? = some (.cells #[.slice A0 f0.length c0, .int .i64 f1, .int .i64 f2] 88 (0, 0)) ∧ w0.heap.size ≤ g ∧ Kd.C (Kd.int .u8) w0 A0 f0.length f0
theorem IsS88.grown {w0 W : World} {g : Nat} {f0 : List Int} {f1 : Int} {f2 : Int} {W1 : World} {row : Option Nat} (h : IsS88 w0 W g f0 f1 f2) (hw : W.grownBy W1 row) (hne : some g ≠ row) : IsS88 w0 W1 g f0 f1 f2 := by
 obtain ⟨A0, c0, hb, hg, hr0⟩ := h
 exact ⟨A0, c0, blk_grown hb hw hne, hg, hr0⟩
theorem IsS88.grownF {WF : World} {w0 W : World} {g : Nat} {f0 : List Int} {f1 : Int} {f2 : Int} {W1 : World} {row : Option Nat} (_h0 : IsS88 w0 WF g f0 f1 f2) (h : IsS88 w0 W g f0 f1 f2) (hw : W.grownBy W1 row) (hne : some g ≠ row) : IsS88 w0 W1 g f0 f1 f2 := h.grown hw hne
theorem IsS88.kept {w0 W : World} {g : Nat} {f0 : List Int} {f1 : Int} {f2 : Int} {W1 : World} {S : Nat → Prop} (h : IsS88 w0 W g f0 f1 f2) (hk : Kept W W1 S) (hne : ¬ S g) : IsS88 w0 W1 g f0 f1 f2 := by
 obtain ⟨A0, c0, hb, hg, hr0⟩ := h
 exact ⟨A0, c0, blk_kept hb hk hne, hg, hr0⟩
theorem IsS88.below {w0 W : World} {g : Nat} {f0 : List Int} {f1 : Int} {f2 : Int} {W1 : World} (h : IsS88 w0 W g f0 f1 f2) (hw : Below W.heap.size W W1) : IsS88 w0 W1 g f0 f1 f2 := h.grown (grown_of_below hw none) (by simp)
theorem IsS88.alloc {w0 W : World} {g : Nat} {f0 : List Int} {f1 : Int} {f2 : Int} (h : IsS88 w0 W g f0 f1 f2) (o : Obj) : IsS88 w0 (W.alloc o) g f0 f1 f2 := h.below (below_alloc (Below.refl _ _) o)
theorem IsS88.drewN {w0 W : World} {g : Nat} {f0 : List Int} {f1 : Int} {f2 : Int} (h : IsS88 w0 W g f0 f1 f2) (m : Nat) : IsS88 w0 (W.drewN m) g f0 f1 f2 := h
theorem IsS88.drew {w0 W : World} {g : Nat} {f0 : List Int} {f1 : Int} {f2 : Int} (h : IsS88 w0 W g f0 f1 f2) : IsS88 w0 W.drew g f0 f1 f2 := h
theorem IsS88.at_ {w0 W : World} {g : Nat} {f0 : List Int} {f1 : Int} {f2 : Int} {w' : World} {m : Nat} (hq : W.drewN m = w') (h : IsS88 w0 W g f0 f1 f2) : IsS88 w0 w' g f0 f1 f2 := by subst hq; exact IsS88.drewN h m
theorem IsS88.apart {w0 W : World} {g : Nat} {f0 : List Int} {f1 : Int} {f2 : Int} {α : Type} {d : Kd α} {e : Nat} {base : Nat} {ok : Nat → Prop} {v : Value} {xs : List α} (h : IsS88 w0 W g f0 f1 f2) (ho : d.R e W base ok v xs) (ht : ∀ q, q ∈ e :: d.E → q ≠ 88) : d.R e W base (fun k => ok k ∧ k ≠ g) v xs := by
 obtain ⟨A0, c0, hb, hg, hr0⟩ := h
 exact Kd.R_types ho hb ht
theorem IsS88.own_ne {w0 W : World} {g : Nat} {f0 : List Int} {f1 : Int} {f2 : Int} {α : Type} {d : Kd α} {e : Nat} {base : Nat} {ok : Nat → Prop} {v : Value} {xs : List α} (h : IsS88 w0 W g f0 f1 f2) (ho : d.R e W base ok v xs) (ht : e ≠ 88) : some g ≠ v.ownBlock := by
 obtain ⟨A0, c0, hb, hg, hr0⟩ := h
 exact Kd.R_ne ho hb ht
theorem IsS88.lt {w0 W : World} {g : Nat} {f0 : List Int} {f1 : Int} {f2 : Int} (h : IsS88 w0 W g f0 f1 f2) : g < W.heap.size := by
 obtain ⟨A0, c0, hb, hg, hr0⟩ := h
 exact blk_lt hb
theorem IsS88.ge {w0 W : World} {g : Nat} {f0 : List Int} {f1 : Int} {f2 : Int} (h : IsS88 w0 W g f0 f1 f2) : w0.heap.size ≤ g := by
 obtain ⟨A0, c0, hb, hg, hr0⟩ := h
 exact hg
theorem IsS88.ne_blk {w0 W : World} {g : Nat} {f0 : List Int} {f1 : Int} {f2 : Int} {a : Nat} {cs : Array Value} {t : TypeId} {fr : Nat × Nat} (h : IsS88 w0 W g f0 f1 f2) (hb2 : W.heap[a]? = some (.cells cs t fr)) (ht : t ≠ 88) : g ≠ a := by
 obtain ⟨A0, c0, hb, hg, hr0⟩ := h
 rintro rfl
 rw [hb] at hb2
 injection hb2 with hb2
 injection hb2 with _ ht2
 exact ht ht2.symm
theorem IsS88.far {w0 W : World} {g : Nat} {f0 : List Int} {f1 : Int} {f2 : Int} {p : Addr} (h : IsS88 w0 W g f0 f1 f2) (hne : g ≠ p.block) (u : Value) : IsS88 w0 (W.setCell p u) g f0 f1 f2 := by
 obtain ⟨A0, c0, hb, hg, hr0⟩ := h
 exact ⟨A0, c0, blk_far hb hne u, hg, hr0⟩
theorem cellS88_0 {W : World} {g : Nat} {A0 : Option Addr} {c0 : Nat} {f0 : List Int} {f1 : Int} {f2 : Int} (h : W.heap[g]? = some (.cells #[.slice A0 f0.length c0, .int .i64 f1, .int .i64 f2] 88 (0, 0))) : W.cell? ⟨g, 0, none⟩ = some (.slice A0 f0.length c0) := (blk_cell h 0).trans rfl
theorem cellS88_1 {W : World} {g : Nat} {A0 : Option Addr} {c0 : Nat} {f0 : List Int} {f1 : Int} {f2 : Int} (h : W.heap[g]? = some (.cells #[.slice A0 f0.length c0, .int .i64 f1, .int .i64 f2] 88 (0, 0))) : W.cell? ⟨g, 1, none⟩ = some (.int .i64 f1) := (blk_cell h 1).trans rfl
theorem IsS88.set_1 {w0 W : World} {g : Nat} {f0 : List Int} {f1 : Int} {f2 : Int} (h : IsS88 w0 W g f0 f1 f2) (x : Int) : IsS88 w0 (W.setCell ⟨g, 1, none⟩ (.int .i64 x)) g f0 x f2 := by
 obtain ⟨A0, c0, hb, hg, hr0⟩ := h
 exact ⟨A0, c0, by simpa using blk_set hb 1 (.int .i64 x), hg, hr0⟩
theorem cellS88_2 {W : World} {g : Nat} {A0 : Option Addr} {c0 : Nat} {f0 : List Int} {f1 : Int} {f2 : Int} (h : W.heap[g]? = some (.cells #[.slice A0 f0.length c0, .int .i64 f1, .int .i64 f2] 88 (0, 0))) : W.cell? ⟨g, 2, none⟩ = some (.int .i64 f2) := (blk_cell h 2).trans rfl
theorem IsS88.set_2 {w0 W : World} {g : Nat} {f0 : List Int} {f1 : Int} {f2 : Int} (h : IsS88 w0 W g f0 f1 f2) (x : Int) : IsS88 w0 (W.setCell ⟨g, 2, none⟩ (.int .i64 x)) g f0 f1 x := by
 obtain ⟨A0, c0, hb, hg, hr0⟩ := h
 exact ⟨A0, c0, by simpa using blk_set hb 2 (.int .i64 x), hg, hr0⟩
def spec_l01Byte.f (s0_0 : List Int) (s0_1 : Int) (s0_2 : Int) : Option (Int × Int × Int) := if s0_1 < (s0_0.length : Int) then (if 0 ≤ s0_1 then (some (Go.bits .and .i64 (wrap64 ((Go.bits .and .i64 (Go.bits .xor .i64 ((wrap64 ((wrap64 (s0_2 * 6364136223846793005)) + 1442695040888963407)) / 8589934592) ((wrap64 ((wrap64 (s0_2 * 6364136223846793005)) + 1442695040888963407)) / 35184372088832)) 255) + (wrap64 (rd s0_0 s0_1)))) 255, wrap64 (s0_1 + 1), wrap64 ((wrap64 (s0_2 * 6364136223846793005)) + 1442695040888963407))) else (none)) else (some (Go.bits .and .i64 (Go.bits .xor .i64 ((wrap64 ((wrap64 (s0_2 * 6364136223846793005)) + 1442695040888963407)) / 8589934592) ((wrap64 ((wrap64 (s0_2 * 6364136223846793005)) + 1442695040888963407)) / 35184372088832)) 255, s0_1, wrap64 ((wrap64 (s0_2 * 6364136223846793005)) + 1442695040888963407)))
set_option maxHeartbeats 8000000 in
set_option maxRecDepth 100000 in
theorem spec_l01Byte.calls (g : Nat) (s0_0 : List Int) (s0_1 : Int) (s0_2 : Int) (r1 : Int) (r2 : Int) (r3 : Int) (w0 w : World) (hI : IsS88 w0 w g s0_0 s0_1 s0_2) (hB : Below w0.heap.size w0 w) (h : spec_l01Byte.f s0_0 s0_1 s0_2 = some (r1, r2, r3)) :
  Calls Try.prog 106 #[.pointer (some ⟨g, 0, none⟩)] w fun e w' => e = .returned (.int .i64 r1) ∧ IsS88 w0 w' g s0_0 r2 r3 ∧ Below w0.heap.size w0 w' ∧ KeepBut w w' g none := by
 have HI0 := Aside0.mk hI
 have HK := Aside0.mk (KeepBut.refl w g none)
 have HL := Aside0.mk hB.size
 clear hI
 have HW0 := Aside0.mk hB.size
 have HB := Aside0.mk hB
 clear hB
 have H : (if s0_1 < (s0_0.length : Int) then (if 0 ≤ s0_1 then (some (Go.bits .and .i64 (wrap64 ((Go.bits .and .i64 (Go.bits .xor .i64 ((wrap64 ((wrap64 (s0_2 * 6364136223846793005)) + 1442695040888963407)) / 8589934592) ((wrap64 ((wrap64 (s0_2 * 6364136223846793005)) + 1442695040888963407)) / 35184372088832)) 255) + (wrap64 (rd s0_0 s0_1)))) 255, wrap64 (s0_1 + 1), wrap64 ((wrap64 (s0_2 * 6364136223846793005)) + 1442695040888963407))) else (none)) else (some (Go.bits .and .i64 (Go.bits .xor .i64 ((wrap64 ((wrap64 (s0_2 * 6364136223846793005)) + 1442695040888963407)) / 8589934592) ((wrap64 ((wrap64 (s0_2 * 6364136223846793005)) + 1442695040888963407)) / 35184372088832)) 255, s0_1, wrap64 ((wrap64 (s0_2 * 6364136223846793005)) + 1442695040888963407)))) = some (r1, r2, r3) := h
 clear h
 by_cases c2 : s0_1 < (s0_0.length : Int)
 ·rw [if_pos c2] at H
  have c2b0 : decide (s0_1 < (s0_0.length : Int)) = true := decide_eq_true c2
  clear c2
  by_cases c3 : 0 ≤ s0_1
  ·rw [if_pos c3] at H
   have c3b0 : decide (0 ≤ s0_1) = true := decide_eq_true c3
   clear c3
   simp only [Option.some.injEq, Prod.mk.injEq] at H
   obtain ⟨rfl, rfl, rfl⟩ := H
   obtain ⟨ASz4_0, cSz4_0, HGz4, hgz4, HSz4_0⟩ := HI0.out
   have hcz4_0 := cellS88_0 HGz4
   have hcz4_1 := cellS88_1 HGz4
   have hcz4_2 := cellS88_2 HGz4
   have hfz4_1 := blk_frozen HGz4 1
   have hfz4_2 := blk_frozen HGz4 2
   clear HGz4 hgz4
   have p593 : 0 ≤ (s0_1 : Int) := ofA
   have q593 : s0_1 < (s0_0.length : Int) := ofA
   obtain ⟨ad593, e593, hx593_0⟩ := Kd.at_int HSz4_0 s0_1 p593 q593
   cases e593
   have hn593_0 : ad593.block ≠ g := Nat.ne_of_lt (Nat.lt_of_lt_of_le (by have := World.block_lt_of_cell? _ _ hx593_0; first | rwa [add_block] at this | exact this) (IsS88.ge HI0.out))
   replace hx593_0 := pw_cell_below HB.out hx593_0
   replace hx593_0 := (cell_far (p := ⟨g, 2, none⟩) (by first | (rw [add_block]; exact hn593_0) | (show (Addr.add _ _).block ≠ _; rw [add_block]; exact hn593_0) | exact hn593_0) (.int .i64 (wrap64 ((wrap64 (s0_2 * 6364136223846793005)) + 1442695040888963407)))).trans hx593_0
   (try have hy593_0 := fun (n_ : Nat) => (show (((w.drewN n_).setCell ⟨g, 2, none⟩ (.int .i64 (wrap64 ((wrap64 (s0_2 * 6364136223846793005)) + 1442695040888963407))))).cell? _ = some _ from hx593_0))
   clear hn593_0
   replace p593 := eq_true p593
   replace q593 := eq_true q593
   go_enter Try.func106, Try.ntmps106
   go_wp2
   repeat (go_quiet (fail); try go_wp2)
   go_ret
   exact ⟨by first | rfl | (simp [errW_none, errW_some] <;> rfl) | (simp [*, errW_none, errW_some] <;> rfl), by repeat (first | (with_reducible first | exact HI0.out | apply IsS88.alloc | apply IsS88.drewN | apply IsS88.drew | apply IsS88.set_1 | apply IsS88.set_2) | exact HI0.out), by repeat (first | (with_reducible first | exact HB.out | apply below_alloc | apply pw_below_drewN | apply below_drew1 | refine below_set ?_ (IsS88.ge HI0.out)) | exact HB.out), by repeat (first | (with_reducible first | exact HK.out | apply KeepBut.set_ | apply keep_drewN | apply keep_drew | apply keep_alloc) | exact HK.out)⟩
  rw [if_neg c3] at H
  exact absurd H (by simp)
 rw [if_neg c2] at H
 have c2b0 : decide (s0_1 < (s0_0.length : Int)) = false := decide_eq_false c2
 clear c2
 simp only [Option.some.injEq, Prod.mk.injEq] at H
 obtain ⟨rfl, rfl, rfl⟩ := H
 obtain ⟨ASz5_0, cSz5_0, HGz5, hgz5, HSz5_0⟩ := HI0.out
 have hcz5_0 := cellS88_0 HGz5
 have hcz5_1 := cellS88_1 HGz5
 have hcz5_2 := cellS88_2 HGz5
 have hfz5_1 := blk_frozen HGz5 1
 have hfz5_2 := blk_frozen HGz5 2
 clear HGz5 hgz5
 go_enter Try.func106, Try.ntmps106
 go_wp2
 repeat (go_quiet (fail); try go_wp2)
 go_ret
 exact ⟨by first | rfl | (simp [errW_none, errW_some] <;> rfl) | (simp [*, errW_none, errW_some] <;> rfl), by repeat (first | (with_reducible first | exact HI0.out | apply IsS88.alloc | apply IsS88.drewN | apply IsS88.drew | apply IsS88.set_1 | apply IsS88.set_2) | exact HI0.out), by repeat (first | (with_reducible first | exact HB.out | apply below_alloc | apply pw_below_drewN | apply below_drew1 | refine below_set ?_ (IsS88.ge HI0.out)) | exact HB.out), by repeat (first | (with_reducible first | exact HK.out | apply KeepBut.set_ | apply keep_drewN | apply keep_drew | apply keep_alloc) | exact HK.out)⟩
def spec_l02Vert.f (a0_0 : Int) (l0_1 : List (S57)) (a1 : Int) : Option (Bool) := if a1 ≥ 0 then (some (decide (a1 < a0_0))) else (some false)
set_option maxHeartbeats 8000000 in
set_option maxRecDepth 100000 in
theorem spec_l02Vert.calls (a0_0 : Int) (A0_1 : Option Addr) (c0_1 : Nat) (l0_1 : List (S57)) (a1 : Int) (r : Bool) (w : World) (hr0_1 : Kd.C k57 w A0_1 l0_1.length l0_1) (hc0_1 : l0_1.length ≤ c0_1) (h : spec_l02Vert.f a0_0 l0_1 a1 = some r) :
  Calls Try.prog 82 #[.agg #[.int .i64 a0_0, .slice A0_1 l0_1.length c0_1], .int .i64 a1] w fun e w' => e = .returned (.bool r) ∧ Below w.heap.size w w' := by
 have hu30 := Try.underlying30
 have HR0_1 := Aside0.mk hr0_1
 have HC0_1 := Aside0.mk hc0_1
 clear hr0_1 hc0_1
 have HB := Aside0.mk (Below.refl w.heap.size w)
 have H : (if a1 ≥ 0 then (some (decide (a1 < a0_0))) else (some false)) = some r := h
 clear h
 by_cases c3 : a1 ≥ 0
 ·rw [if_pos c3] at H
  have c3b0 : decide (0 ≤ a1) = true := decide_eq_true c3
  clear c3
  obtain rfl := Option.some.inj H
  go_enter Try.func82, Try.ntmps82
  go_wp2_with (first | ((with_reducible refine gate_dst (N := 2) rfl ?_); refine box_event ?hg (N := 2) ?hd (cs := #[.int .i64 a0_0, .slice A0_1 l0_1.length c0_1]) (t := 30) ?hr ?_; (case hd => rfl); (case hg => rfl); (case hr => first | (go_simp; done) | (go_simp; rfl)); intro gb264 hg w4 hbox hb; have BK264 := Aside0.mk (hbox); have GW264 := Aside0.mk ((by rw [hg]; exact (below_size (Lz HB)) : w.heap.size ≤ gb264)); have GE264 := Aside0.mk ((by rw [hg]; exact (below_size (Lz HB)) : w.heap.size ≤ gb264)); replace HB := Aside0.mk (below_step (Lz HB) hb); clear hb hbox hg; have hcz5_0 : w4.cell? ⟨gb264, 0, none⟩ = some (.int .i64 a0_0) := (blk_cell BK264.out 0).trans rfl; have hcz5_1 : w4.cell? ⟨gb264, 1, none⟩ = some (.slice A0_1 l0_1.length c0_1) := (blk_cell BK264.out 1).trans rfl; have hfz5_0 := blk_frozen BK264.out 0; have hfz5_1 := blk_frozen BK264.out 1))
  go_ret
  exact ⟨by first | rfl | (simp [errW_none, errW_some] <;> rfl) | (simp [*, errW_none, errW_some] <;> rfl), by exact Lz1 HB GE264⟩
 rw [if_neg c3] at H
 have c3b0 : decide (0 ≤ a1) = false := decide_eq_false c3
 clear c3
 obtain rfl := Option.some.inj H
 go_enter Try.func82, Try.ntmps82
 go_wp2_with (first | ((with_reducible refine gate_dst (N := 2) rfl ?_); refine box_event ?hg (N := 2) ?hd (cs := #[.int .i64 a0_0, .slice A0_1 l0_1.length c0_1]) (t := 30) ?hr ?_; (case hd => rfl); (case hg => rfl); (case hr => first | (go_simp; done) | (go_simp; rfl)); intro gb264 hg w6 hbox hb; have BK264 := Aside0.mk (hbox); have GW264 := Aside0.mk ((by rw [hg]; exact (below_size (Lz HB)) : w.heap.size ≤ gb264)); have GE264 := Aside0.mk ((by rw [hg]; exact (below_size (Lz HB)) : w.heap.size ≤ gb264)); replace HB := Aside0.mk (below_step (Lz HB) hb); clear hb hbox hg))
 go_ret
 exact ⟨by first | rfl | (simp [errW_none, errW_some] <;> rfl) | (simp [*, errW_none, errW_some] <;> rfl), by exact Lz1 HB GE264⟩
mutual
def spec_Multiplicity.j0 : Nat → Int → Int → Int → Bool → Int → List (S57) → Option (Int)
 | 0, _, _, _, _, _, _ => none
 | k + 1, x1, x2, x7, x24, x270000, x270001 => if x24 = true then (some 0) else (spec_Multiplicity.l0 k x1 x2 x7 x270001 (x270001.length : Int) 0)
def spec_Multiplicity.l0 : Nat → Int → Int → Int → List (S57) → Int → Int → Option (Int)
 | 0, _, _, _, _, _, _ => none
 | k + 1, x1, x2, x7, x26, x27, x28 => if x28 < x27 then (if 0 ≤ x28 then (if x28 < (x26.length : Int) then (if ((rd_T57 x26 x28).f0) = (mn x1 x2) then (if ((rd_T57 x26 x28).f1) = (mx x1 x2) then (spec_Multiplicity.l0 k x1 x2 (wrap64 (x7 + 1)) x26 x27 (wrap64 (x28 + 1))) else (spec_Multiplicity.l0 k x1 x2 x7 x26 x27 (wrap64 (x28 + 1)))) else (spec_Multiplicity.l0 k x1 x2 x7 x26 x27 (wrap64 (x28 + 1)))) else (none)) else (none)) else (some x7)
end
def spec_Multiplicity.f (k : Nat) (a0_0 : Int) (l0_1 : List (S57)) (a1 : Int) (a2 : Int) : Option (Int) := (spec_l02Vert.f a0_0 l0_1 a1).bind fun t270 => (if t270 = true then ((spec_l02Vert.f a0_0 l0_1 a2).bind fun t271 => (if t271 = true then (spec_Multiplicity.j0 k a1 a2 0 (a1 == a2) a0_0 l0_1) else (spec_Multiplicity.j0 k a1 a2 0 true a0_0 l0_1))) else (spec_Multiplicity.j0 k a1 a2 0 true a0_0 l0_1))
set_option maxHeartbeats 8000000 in
set_option maxRecDepth 100000 in
theorem spec_Multiplicity.calls (k : Nat) (a0_0 : Int) (A0_1 : Option Addr) (c0_1 : Nat) (l0_1 : List (S57)) (a1 : Int) (a2 : Int) (r : Int) (w : World) (hr0_1 : Kd.C k57 w A0_1 l0_1.length l0_1) (hc0_1 : l0_1.length ≤ c0_1) (h : spec_Multiplicity.f k a0_0 l0_1 a1 a2 = some r) :
  Calls Try.prog 49 #[.agg #[.int .i64 a0_0, .slice A0_1 l0_1.length c0_1], .int .i64 a1, .int .i64 a2] w fun e w' => e = .returned (.int .i64 r) ∧ Below w.heap.size w w' := by
 have hu30 := Try.underlying30
 have hu57 := Try.underlying57
 have HR0_1 := Aside0.mk hr0_1
 have HC0_1 := Aside0.mk hc0_1
 clear hr0_1 hc0_1
 have HB := Aside0.mk (Below.refl w.heap.size w)
 have H : ((spec_l02Vert.f a0_0 l0_1 a1).bind fun t270 => (if t270 = true then ((spec_l02Vert.f a0_0 l0_1 a2).bind fun t271 => (if t271 = true then (spec_Multiplicity.j0 k a1 a2 0 (a1 == a2) a0_0 l0_1) else (spec_Multiplicity.j0 k a1 a2 0 true a0_0 l0_1))) else (spec_Multiplicity.j0 k a1 a2 0 true a0_0 l0_1))) = some r := h
 clear h
 have HC4 := Aside0.mk H
 clear H
 go_enter Try.func49, Try.ntmps49
 go_upto_region 2 with (first | ((with_reducible refine gate_dst (N := 3) rfl ?_); (try (refine gate_guard (by rfl) ?_; dsimp only)); refine box_event ?hg (N := 3) ?hd (cs := #[.int .i64 a0_0, .slice A0_1 l0_1.length c0_1]) (t := 30) ?hr ?_; (case hd => rfl); (case hg => rfl); (case hr => first | (go_simp; done) | (go_simp; rfl)); intro gb269 hg w5 hbox hb; have BK269 := Aside0.mk (hbox); have GW269 := Aside0.mk ((by rw [hg]; exact (below_size (Lz HB)) : w.heap.size ≤ gb269)); have GE269 := Aside0.mk ((by rw [hg]; exact (below_size (Lz HB)) : w.heap.size ≤ gb269)); replace HB := Aside0.mk (below_step (Lz HB) hb); clear hb hbox hg))
 (try simp only [Act.put, List.setIfInBounds_toArray, List.set_cons_zero, List.set_cons_succ])
 go_cut [24] (fun v24 wc => ∃ (kq : Nat) (x24_3 : Bool), v24 = .bool x24_3 ∧ Aside0 (spec_Multiplicity.j0 kq a1 a2 0 x24_3 a0_0 l0_1 = some r) ∧ Aside0 (kq ≤ k) ∧ Aside0 (wc.heap[gb269]? = some (.cells #[.int .i64 a0_0, (.slice A0_1 l0_1.length c0_1)] 30 (0, 0))) ∧ Aside0 (Below w.heap.size w wc))
 case first =>
  have H := HC4.out
  clear HC4
  replace H := Option.bind_eq_some_iff.mp H
  obtain ⟨t270, A60, H⟩ := H
  replace H : (if t270 = true then ((spec_l02Vert.f a0_0 l0_1 a2).bind fun t271 => (if t271 = true then (spec_Multiplicity.j0 k a1 a2 0 (a1 == a2) a0_0 l0_1) else (spec_Multiplicity.j0 k a1 a2 0 true a0_0 l0_1))) else (spec_Multiplicity.j0 k a1 a2 0 true a0_0 l0_1)) = some r := H
  have A6 := Aside0.mk A60
  clear A60
  by_cases c7 : t270 = true
  ·subst c7
   have H1 : ((spec_l02Vert.f a0_0 l0_1 a2).bind fun t271 => (if t271 = true then (spec_Multiplicity.j0 k a1 a2 0 (a1 == a2) a0_0 l0_1) else (spec_Multiplicity.j0 k a1 a2 0 true a0_0 l0_1))) = some r := by rw [if_pos rfl] at H; exact H
   clear H
   have H := H1
   clear H1
   replace H := Option.bind_eq_some_iff.mp H
   obtain ⟨t271, A80, H⟩ := H
   replace H : (if t271 = true then (spec_Multiplicity.j0 k a1 a2 0 (a1 == a2) a0_0 l0_1) else (spec_Multiplicity.j0 k a1 a2 0 true a0_0 l0_1)) = some r := H
   have A8 := Aside0.mk A80
   clear A80
   by_cases c9 : t271 = true
   ·subst c9
    have H1 : (spec_Multiplicity.j0 k a1 a2 0 (a1 == a2) a0_0 l0_1) = some r := by rw [if_pos rfl] at H; exact H
    clear H
    have H := H1
    clear H1
    have H' := Aside0.mk H
    clear H
    have hcz10_0 : w5.cell? ⟨gb269, 0, none⟩ = some (.int .i64 a0_0) := (blk_cell BK269.out 0).trans rfl
    have hcz10_1 : w5.cell? ⟨gb269, 1, none⟩ = some (.slice A0_1 l0_1.length c0_1) := (blk_cell BK269.out 1).trans rfl
    have hfz10_0 := blk_frozen BK269.out 0
    have hfz10_1 := blk_frozen BK269.out 1
    go_wp2_with (first | ((with_reducible refine gate_callee (f := 82) rfl ?_); refine goesM_ (some 12) rfl rfl Try.func82 (by kernel_rfl) rfl #[.agg #[.int .i64 a0_0, .slice A0_1 l0_1.length c0_1], .int .i64 a1] rfl ?_; (with_reducible refine (spec_l02Vert.calls a0_0 _ _ l0_1 a1 true _ ?side1 ?side2 A6.out).mono ?_); (case side1 => exact Cz ((Kd.C_below HR0_1.out HB.out))); (case side2 => exact HC0_1.out); rintro e w11 ⟨rfl, hb⟩; refine ⟨_, rfl, ?_⟩; replace BK269 := Aside0.mk (blk_below (g := gb269) (o := .cells #[.int .i64 a0_0, .slice A0_1 l0_1.length c0_1] 30 (0, 0)) (Bz BK269) hb); replace HB := Aside0.mk (below_step (by exact Lz1 HB GE269) hb); (try clear hb); (try clear hb2); (try clear hk); (try clear hi); have hcz12_0 : w11.cell? ⟨gb269, 0, none⟩ = some (.int .i64 a0_0) := (blk_cell BK269.out 0).trans rfl; have hcz12_1 : w11.cell? ⟨gb269, 1, none⟩ = some (.slice A0_1 l0_1.length c0_1) := (blk_cell BK269.out 1).trans rfl; have hfz12_0 := blk_frozen BK269.out 0; have hfz12_1 := blk_frozen BK269.out 1) | (go_at_call 82; (with_reducible refine (spec_l02Vert.calls a0_0 _ _ l0_1 a2 true _ ?side1 ?side2 A8.out).mono ?_); (case side1 => exact Cz ((Kd.C_below HR0_1.out HB.out))); (case side2 => exact HC0_1.out); rintro e w13 ⟨rfl, hb⟩; replace BK269 := Aside0.mk (blk_below (g := gb269) (o := .cells #[.int .i64 a0_0, .slice A0_1 l0_1.length c0_1] 30 (0, 0)) (Bz BK269) hb); replace HB := Aside0.mk (below_step (by exact Lz1 HB GE269) hb); (try clear hb); (try clear hb2); (try clear hk); (try clear hi)))
    go_meet
    case rel => exact ⟨_, ((a1 == a2)), eqA, H', ⟨by first | omega | exact Nat.le_refl _⟩, ⟨by exact Bz BK269⟩, ⟨by exact Lz1 HB GE269⟩⟩
   replace c9 := Bool.eq_false_iff.mpr c9
   subst c9
   have H1 : (spec_Multiplicity.j0 k a1 a2 0 true a0_0 l0_1) = some r := by rw [if_neg (show ¬ (false = true) by decide)] at H; exact H
   clear H
   have H := H1
   clear H1
   have H' := Aside0.mk H
   clear H
   have hcz14_0 : w5.cell? ⟨gb269, 0, none⟩ = some (.int .i64 a0_0) := (blk_cell BK269.out 0).trans rfl
   have hcz14_1 : w5.cell? ⟨gb269, 1, none⟩ = some (.slice A0_1 l0_1.length c0_1) := (blk_cell BK269.out 1).trans rfl
   have hfz14_0 := blk_frozen BK269.out 0
   have hfz14_1 := blk_frozen BK269.out 1
   go_wp2_with (first | ((with_reducible refine gate_callee (f := 82) rfl ?_); refine goesM_ (some 12) rfl rfl Try.func82 (by kernel_rfl) rfl #[.agg #[.int .i64 a0_0, .slice A0_1 l0_1.length c0_1], .int .i64 a1] rfl ?_; (with_reducible refine (spec_l02Vert.calls a0_0 _ _ l0_1 a1 true _ ?side1 ?side2 A6.out).mono ?_); (case side1 => exact Cz ((Kd.C_below HR0_1.out HB.out))); (case side2 => exact HC0_1.out); rintro e w15 ⟨rfl, hb⟩; refine ⟨_, rfl, ?_⟩; replace BK269 := Aside0.mk (blk_below (g := gb269) (o := .cells #[.int .i64 a0_0, .slice A0_1 l0_1.length c0_1] 30 (0, 0)) (Bz BK269) hb); replace HB := Aside0.mk (below_step (by exact Lz1 HB GE269) hb); (try clear hb); (try clear hb2); (try clear hk); (try clear hi); have hcz16_0 : w15.cell? ⟨gb269, 0, none⟩ = some (.int .i64 a0_0) := (blk_cell BK269.out 0).trans rfl; have hcz16_1 : w15.cell? ⟨gb269, 1, none⟩ = some (.slice A0_1 l0_1.length c0_1) := (blk_cell BK269.out 1).trans rfl; have hfz16_0 := blk_frozen BK269.out 0; have hfz16_1 := blk_frozen BK269.out 1) | (go_at_call 82; (with_reducible refine (spec_l02Vert.calls a0_0 _ _ l0_1 a2 false _ ?side1 ?side2 A8.out).mono ?_); (case side1 => exact Cz ((Kd.C_below HR0_1.out HB.out))); (case side2 => exact HC0_1.out); rintro e w17 ⟨rfl, hb⟩; replace BK269 := Aside0.mk (blk_below (g := gb269) (o := .cells #[.int .i64 a0_0, .slice A0_1 l0_1.length c0_1] 30 (0, 0)) (Bz BK269) hb); replace HB := Aside0.mk (below_step (by exact Lz1 HB GE269) hb); (try clear hb); (try clear hb2); (try clear hk); (try clear hi)))
   go_meet
   case rel => exact ⟨_, (true), eqA, H', ⟨by first | omega | exact Nat.le_refl _⟩, ⟨by exact Bz BK269⟩, ⟨by exact Lz1 HB GE269⟩⟩
  replace c7 := Bool.eq_false_iff.mpr c7
  subst c7
  have H1 : (spec_Multiplicity.j0 k a1 a2 0 true a0_0 l0_1) = some r := by rw [if_neg (show ¬ (false = true) by decide)] at H; exact H
  clear H
  have H := H1
  clear H1
  have H' := Aside0.mk H
  clear H
  have hcz18_0 : w5.cell? ⟨gb269, 0, none⟩ = some (.int .i64 a0_0) := (blk_cell BK269.out 0).trans rfl
  have hcz18_1 : w5.cell? ⟨gb269, 1, none⟩ = some (.slice A0_1 l0_1.length c0_1) := (blk_cell BK269.out 1).trans rfl
  have hfz18_0 := blk_frozen BK269.out 0
  have hfz18_1 := blk_frozen BK269.out 1
  go_wp2_with (first | ((with_reducible refine gate_callee (f := 82) rfl ?_); refine goesM_ (some 12) rfl rfl Try.func82 (by kernel_rfl) rfl #[.agg #[.int .i64 a0_0, .slice A0_1 l0_1.length c0_1], .int .i64 a1] rfl ?_; (with_reducible refine (spec_l02Vert.calls a0_0 _ _ l0_1 a1 false _ ?side1 ?side2 A6.out).mono ?_); (case side1 => exact Cz ((Kd.C_below HR0_1.out HB.out))); (case side2 => exact HC0_1.out); rintro e w19 ⟨rfl, hb⟩; refine ⟨_, rfl, ?_⟩; replace BK269 := Aside0.mk (blk_below (g := gb269) (o := .cells #[.int .i64 a0_0, .slice A0_1 l0_1.length c0_1] 30 (0, 0)) (Bz BK269) hb); replace HB := Aside0.mk (below_step (by exact Lz1 HB GE269) hb); (try clear hb); (try clear hb2); (try clear hk); (try clear hi)))
  go_meet
  case rel => exact ⟨_, (true), eqA, H', ⟨by first | omega | exact Nat.le_refl _⟩, ⟨by exact Bz BK269⟩, ⟨by exact Lz1 HB GE269⟩⟩
 case rest =>
  clear HC4
  try clear c7
  try clear c9
  obtain ⟨kq, x24_3, rfl, HA, HJ3, BK269, HB⟩ := hcut
  cases kq with
  | zero => exact absurd HA.out (by simp [spec_Multiplicity.j0])
  | succ kj3 =>
   have H := HA.out
   clear HA
   simp only [spec_Multiplicity.j0] at H
   by_cases c20 : x24_3 = true
   ·subst c20
    have H1 : (some 0) = some r := by rw [if_pos rfl] at H; exact H
    clear H
    have H := H1
    clear H1
    obtain rfl := Option.some.inj H
    go_wp2
    go_ret
    exact ⟨by first | rfl | (simp [errW_none, errW_some] <;> rfl) | (simp [*, errW_none, errW_some] <;> rfl), by exact Lz1 HB GE269⟩
   replace c20 := Bool.eq_false_iff.mpr c20
   subst c20
   have H1 : (spec_Multiplicity.l0 kj3 a1 a2 0 l0_1 (l0_1.length : Int) 0) = some r := by rw [if_neg (show ¬ (false = true) by decide)] at H; exact H
   clear H
   have H := H1
   clear H1
   have H' := Aside0.mk H
   clear H
   have hcz21_0 : wc.cell? ⟨gb269, 0, none⟩ = some (.int .i64 a0_0) := (blk_cell BK269.out 0).trans rfl
   have hcz21_1 : wc.cell? ⟨gb269, 1, none⟩ = some (.slice A0_1 l0_1.length c0_1) := (blk_cell BK269.out 1).trans rfl
   have hfz21_0 := blk_frozen BK269.out 0
   have hfz21_1 := blk_frozen BK269.out 1
   go_wp2
   go_loopg [7, 28] kj3 (fun kq v7 v28 w' => ∃ (x7_2 : Int) (x28_2 : Int), v7 = .int .i64 x7_2 ∧ v28 = .int .i64 x28_2 ∧ Aside0 (spec_Multiplicity.l0 kq a1 a2 x7_2 l0_1 (l0_1.length : Int) x28_2 = some r) ∧ Aside0 (kq ≤ kj3) ∧ Aside0 (w'.heap[gb269]? = some (.cells #[.int .i64 a0_0, (.slice A0_1 l0_1.length c0_1)] 30 (0, 0))) ∧ Aside0 (Below w.heap.size w w'))
   case atStart => exact ⟨(0), (0), eqA, eqA, H', ⟨Nat.le_refl _⟩, ⟨by exact Bz BK269⟩, ⟨by exact Lz1 HB GE269⟩⟩
   case round =>
    clear H'
    try clear c7
    try clear c9
    try clear c20
    obtain ⟨x7_2, x28_2, rfl, rfl, HA, HK2, BK269, HB⟩ := hrel
    cases gk with
    | zero => exact absurd HA.out (by simp [spec_Multiplicity.l0])
    | succ k2 =>
     have H := HA.out
     clear HA
     simp only [spec_Multiplicity.l0] at H
     by_cases c22 : x28_2 < (l0_1.length : Int)
     ·rw [if_pos c22] at H
      have c22b0 : decide (x28_2 < (l0_1.length : Int)) = true := decide_eq_true c22
      clear c22
      by_cases c23 : 0 ≤ x28_2
      ·rw [if_pos c23] at H
       have c23b0 : decide (0 ≤ x28_2) = true := decide_eq_true c23
       clear c23
       by_cases c24 : x28_2 < (l0_1.length : Int)
       ·rw [if_pos c24] at H
        have c24b0 : decide (x28_2 < (l0_1.length : Int)) = true := decide_eq_true c24
        clear c24
        obtain ⟨ji25, hji25⟩ : ∃ j_ : Int, (mn a1 a2) = j_ := ⟨_, rfl⟩
        replace H : (if ((rd_T57 l0_1 x28_2).f0) = (ji25) then (if ((rd_T57 l0_1 x28_2).f1) = (mx a1 a2) then (spec_Multiplicity.l0 k2 a1 a2 (wrap64 (x7_2 + 1)) l0_1 (l0_1.length : Int) (wrap64 (x28_2 + 1))) else (spec_Multiplicity.l0 k2 a1 a2 x7_2 l0_1 (l0_1.length : Int) (wrap64 (x28_2 + 1)))) else (spec_Multiplicity.l0 k2 a1 a2 x7_2 l0_1 (l0_1.length : Int) (wrap64 (x28_2 + 1)))) = some r := by first | (rw [hji25] at H; exact H) | (simp only [hji25] at H ⊢; exact H)
        have hji25_ : (if a2 < a1 then a2 else a1) = ji25 := hji25
        by_cases c26 : ((rd_T57 l0_1 x28_2).f0) = (ji25)
        ·rw [if_pos c26] at H
         have c26b0 : (((rd_T57 l0_1 x28_2).f0) == (ji25)) = true := beq_iff_eq.mpr c26
         have c26b1 : (((rd_T57 l0_1 x28_2).f0) != (ji25)) = false := bne_eq_false_iff_eq.mpr c26
         clear c26
         obtain ⟨ji27, hji27⟩ : ∃ j_ : Int, (mx a1 a2) = j_ := ⟨_, rfl⟩
         replace H : (if ((rd_T57 l0_1 x28_2).f1) = (ji27) then (spec_Multiplicity.l0 k2 a1 a2 (wrap64 (x7_2 + 1)) l0_1 (l0_1.length : Int) (wrap64 (x28_2 + 1))) else (spec_Multiplicity.l0 k2 a1 a2 x7_2 l0_1 (l0_1.length : Int) (wrap64 (x28_2 + 1)))) = some r := by first | (rw [hji27] at H; exact H) | (simp only [hji27] at H ⊢; exact H)
         have hji27_ : (if a1 < a2 then a2 else a1) = ji27 := hji27
         by_cases c28 : ((rd_T57 l0_1 x28_2).f1) = (ji27)
         ·rw [if_pos c28] at H
          have c28b0 : (((rd_T57 l0_1 x28_2).f1) == (ji27)) = true := beq_iff_eq.mpr c28
          have c28b1 : (((rd_T57 l0_1 x28_2).f1) != (ji27)) = false := bne_eq_false_iff_eq.mpr c28
          clear c28
          have H' := Aside0.mk H
          clear H
          have p272 : 0 ≤ (x28_2 : Int) := ofA
          have q272 : x28_2 < (l0_1.length : Int) := ofA
          obtain ⟨ad272, e272, hx272_0, hx272_1⟩ := at_T57 HR0_1.out x28_2 p272 q272
          cases e272
          replace hx272_0 := (HB.out.cell (World.block_lt_of_cell? w _ hx272_0)).trans hx272_0
          replace hx272_1 := (HB.out.cell (World.block_lt_of_cell? w _ hx272_1)).trans hx272_1
          replace p272 := eq_true p272
          replace q272 := eq_true q272
          go_wp2_with (first | ((with_reducible refine gate_dst (N := 9) rfl ?_); (try (refine gate_guard (by rfl) ?_; dsimp only)); refine box_event ?hg (N := 9) ?hd (cs := #[.int .i64 0, .int .i64 0]) (t := 57) ?hr ?_; (case hd => rfl); (case hg => rfl); (case hr => first | (go_simp; done) | (go_simp; rfl)); intro gb273 hg w29 hbox hb; have BK273 := Aside0.mk (hbox); have GW273 := Aside0.mk ((by rw [hg]; exact (below_size (by exact Lz1 HB GE269)) : w.heap.size ≤ gb273)); have GE273 := Aside0.mk ((by rw [hg]; exact (below_size (by exact Lz1 HB GE269)) : w.heap.size ≤ gb273)); replace HB := Aside0.mk (below_step (by exact Lz1 HB GE269) hb); have NB269_273 := Aside0.mk ((by rw [hg]; exact Nat.ne_of_lt (blk_lt (g := gb269) (o := .cells #[.int .i64 a0_0, .slice (some ad272) l0_1.length c0_1] 30 (0, 0)) (Bz BK269)) : gb269 ≠ gb273)); have NB273_269 := Aside0.mk ((by rw [hg]; exact Nat.ne_of_gt (blk_lt (g := gb269) (o := .cells #[.int .i64 a0_0, .slice (some ad272) l0_1.length c0_1] 30 (0, 0)) (Bz BK269)) : gb273 ≠ gb269)); replace BK269 := Aside0.mk (blk_below (g := gb269) (o := .cells #[.int .i64 a0_0, .slice (some ad272) l0_1.length c0_1] 30 (0, 0)) (Bz BK269) hb); clear hb hbox hg; have hnb30 := NB273_269.out; have hnc30 := NB269_273.out; have hcz31_0 : w29.cell? ⟨gb273, 0, none⟩ = some (.int .i64 0) := (blk_cell BK273.out 0).trans rfl; have hcz31_1 : w29.cell? ⟨gb273, 1, none⟩ = some (.int .i64 0) := (blk_cell BK273.out 1).trans rfl; have hfz31_0 := blk_frozen BK273.out 0; have hfz31_1 := blk_frozen BK273.out 1))
          go_roundg k2
          case measure => have := HJ3.out; have := HK2.out; omega
          case rel => exact ⟨(wrap64 (x7_2 + 1)), (wrap64 (x28_2 + 1)), eqA, eqA, H', ⟨by have := HJ3.out; have := HK2.out; omega⟩, ⟨by (with_reducible repeat (first | refine blk_drewN ?_ _ | refine blk_drew ?_ | refine blk_alloc ?_ _)); refine blk_far ?_ NB269_273.out _; (with_reducible repeat (first | refine blk_drewN ?_ _ | refine blk_drew ?_ | refine blk_alloc ?_ _)); refine blk_far ?_ NB269_273.out _; exact Bz BK269⟩, ⟨by exact Lz2 HB GE269 GE273⟩⟩
         rw [if_neg c28] at H
         have c28b0 : (((rd_T57 l0_1 x28_2).f1) == (ji27)) = false := beq_eq_false_iff_ne.mpr c28
         have c28b1 : (((rd_T57 l0_1 x28_2).f1) != (ji27)) = true := bne_iff_ne.mpr c28
         have H' := Aside0.mk H
         clear H
         have p272 : 0 ≤ (x28_2 : Int) := ofA
         have q272 : x28_2 < (l0_1.length : Int) := ofA
         obtain ⟨ad272, e272, hx272_0, hx272_1⟩ := at_T57 HR0_1.out x28_2 p272 q272
         cases e272
         replace hx272_0 := (HB.out.cell (World.block_lt_of_cell? w _ hx272_0)).trans hx272_0
         replace hx272_1 := (HB.out.cell (World.block_lt_of_cell? w _ hx272_1)).trans hx272_1
         replace p272 := eq_true p272
         replace q272 := eq_true q272
         go_wp2_with (first | ((with_reducible refine gate_dst (N := 9) rfl ?_); (try (refine gate_guard (by rfl) ?_; dsimp only)); refine box_event ?hg (N := 9) ?hd (cs := #[.int .i64 0, .int .i64 0]) (t := 57) ?hr ?_; (case hd => rfl); (case hg => rfl); (case hr => first | (go_simp; done) | (go_simp; rfl)); intro gb273 hg w32 hbox hb; have BK273 := Aside0.mk (hbox); have GW273 := Aside0.mk ((by rw [hg]; exact (below_size (by exact Lz1 HB GE269)) : w.heap.size ≤ gb273)); have GE273 := Aside0.mk ((by rw [hg]; exact (below_size (by exact Lz1 HB GE269)) : w.heap.size ≤ gb273)); replace HB := Aside0.mk (below_step (by exact Lz1 HB GE269) hb); have NB269_273 := Aside0.mk ((by rw [hg]; exact Nat.ne_of_lt (blk_lt (g := gb269) (o := .cells #[.int .i64 a0_0, .slice (some ad272) l0_1.length c0_1] 30 (0, 0)) (Bz BK269)) : gb269 ≠ gb273)); have NB273_269 := Aside0.mk ((by rw [hg]; exact Nat.ne_of_gt (blk_lt (g := gb269) (o := .cells #[.int .i64 a0_0, .slice (some ad272) l0_1.length c0_1] 30 (0, 0)) (Bz BK269)) : gb273 ≠ gb269)); replace BK269 := Aside0.mk (blk_below (g := gb269) (o := .cells #[.int .i64 a0_0, .slice (some ad272) l0_1.length c0_1] 30 (0, 0)) (Bz BK269) hb); clear hb hbox hg; have hnb33 := NB273_269.out; have hnc33 := NB269_273.out; have hcz34_0 : w32.cell? ⟨gb273, 0, none⟩ = some (.int .i64 0) := (blk_cell BK273.out 0).trans rfl; have hcz34_1 : w32.cell? ⟨gb273, 1, none⟩ = some (.int .i64 0) := (blk_cell BK273.out 1).trans rfl; have hfz34_0 := blk_frozen BK273.out 0; have hfz34_1 := blk_frozen BK273.out 1))
         go_roundg k2
         case measure => have := HJ3.out; have := HK2.out; omega
         case rel => exact ⟨(x7_2), (wrap64 (x28_2 + 1)), eqA, eqA, H', ⟨by have := HJ3.out; have := HK2.out; omega⟩, ⟨by (with_reducible repeat (first | refine blk_drewN ?_ _ | refine blk_drew ?_ | refine blk_alloc ?_ _)); refine blk_far ?_ NB269_273.out _; (with_reducible repeat (first | refine blk_drewN ?_ _ | refine blk_drew ?_ | refine blk_alloc ?_ _)); refine blk_far ?_ NB269_273.out _; exact Bz BK269⟩, ⟨by exact Lz2 HB GE269 GE273⟩⟩
        rw [if_neg c26] at H
        have c26b0 : (((rd_T57 l0_1 x28_2).f0) == (ji25)) = false := beq_eq_false_iff_ne.mpr c26
        have c26b1 : (((rd_T57 l0_1 x28_2).f0) != (ji25)) = true := bne_iff_ne.mpr c26
        have H' := Aside0.mk H
        clear H
        have p272 : 0 ≤ (x28_2 : Int) := ofA
        have q272 : x28_2 < (l0_1.length : Int) := ofA
        obtain ⟨ad272, e272, hx272_0, hx272_1⟩ := at_T57 HR0_1.out x28_2 p272 q272
        cases e272
        replace hx272_0 := (HB.out.cell (World.block_lt_of_cell? w _ hx272_0)).trans hx272_0
        replace hx272_1 := (HB.out.cell (World.block_lt_of_cell? w _ hx272_1)).trans hx272_1
        replace p272 := eq_true p272
        replace q272 := eq_true q272
        go_wp2_with (first | ((with_reducible refine gate_dst (N := 9) rfl ?_); (try (refine gate_guard (by rfl) ?_; dsimp only)); refine box_event ?hg (N := 9) ?hd (cs := #[.int .i64 0, .int .i64 0]) (t := 57) ?hr ?_; (case hd => rfl); (case hg => rfl); (case hr => first | (go_simp; done) | (go_simp; rfl)); intro gb273 hg w35 hbox hb; have BK273 := Aside0.mk (hbox); have GW273 := Aside0.mk ((by rw [hg]; exact (below_size (by exact Lz1 HB GE269)) : w.heap.size ≤ gb273)); have GE273 := Aside0.mk ((by rw [hg]; exact (below_size (by exact Lz1 HB GE269)) : w.heap.size ≤ gb273)); replace HB := Aside0.mk (below_step (by exact Lz1 HB GE269) hb); have NB269_273 := Aside0.mk ((by rw [hg]; exact Nat.ne_of_lt (blk_lt (g := gb269) (o := .cells #[.int .i64 a0_0, .slice (some ad272) l0_1.length c0_1] 30 (0, 0)) (Bz BK269)) : gb269 ≠ gb273)); have NB273_269 := Aside0.mk ((by rw [hg]; exact Nat.ne_of_gt (blk_lt (g := gb269) (o := .cells #[.int .i64 a0_0, .slice (some ad272) l0_1.length c0_1] 30 (0, 0)) (Bz BK269)) : gb273 ≠ gb269)); replace BK269 := Aside0.mk (blk_below (g := gb269) (o := .cells #[.int .i64 a0_0, .slice (some ad272) l0_1.length c0_1] 30 (0, 0)) (Bz BK269) hb); clear hb hbox hg; have hnb36 := NB273_269.out; have hnc36 := NB269_273.out; have hcz37_0 : w35.cell? ⟨gb273, 0, none⟩ = some (.int .i64 0) := (blk_cell BK273.out 0).trans rfl; have hcz37_1 : w35.cell? ⟨gb273, 1, none⟩ = some (.int .i64 0) := (blk_cell BK273.out 1).trans rfl; have hfz37_0 := blk_frozen BK273.out 0; have hfz37_1 := blk_frozen BK273.out 1))
        go_roundg k2
        case measure => have := HJ3.out; have := HK2.out; omega
        case rel => exact ⟨(x7_2), (wrap64 (x28_2 + 1)), eqA, eqA, H', ⟨by have := HJ3.out; have := HK2.out; omega⟩, ⟨by (with_reducible repeat (first | refine blk_drewN ?_ _ | refine blk_drew ?_ | refine blk_alloc ?_ _)); refine blk_far ?_ NB269_273.out _; (with_reducible repeat (first | refine blk_drewN ?_ _ | refine blk_drew ?_ | refine blk_alloc ?_ _)); refine blk_far ?_ NB269_273.out _; exact Bz BK269⟩, ⟨by exact Lz2 HB GE269 GE273⟩⟩
       rw [if_neg c24] at H
       exact absurd H (by simp)
      rw [if_neg c23] at H
      exact absurd H (by simp)
     rw [if_neg c22] at H
     have c22b0 : decide (x28_2 < (l0_1.length : Int)) = false := decide_eq_false c22
     clear c22
     obtain rfl := Option.some.inj H
     go_wp2
     go_ret
     exact ⟨by first | rfl | (simp [errW_none, errW_some] <;> rfl) | (simp [*, errW_none, errW_some] <;> rfl), by exact Lz1 HB GE269⟩
def spec_l01Below.f (s0_0 : List Int) (s0_1 : Int) (s0_2 : Int) (a1 : Int) : Option (Int × Int × Int) := if a1 ≤ 0 then (some (0, s0_1, s0_2)) else (if a1 ≤ 256 then ((spec_l01Byte.f s0_0 s0_1 s0_2).bind fun bt594 => (if a1 = 0 then (none) else (some (Int.tmod bt594.1 a1, bt594.2.1, bt594.2.2)))) else ((spec_l01Byte.f s0_0 s0_1 s0_2).bind fun bt597 => ((spec_l01Byte.f s0_0 bt597.2.1 bt597.2.2).bind fun bt600 => ((spec_l01Byte.f s0_0 bt600.2.1 bt600.2.2).bind fun bt603 => ((spec_l01Byte.f s0_0 bt603.2.1 bt603.2.2).bind fun bt606 => (if a1 = 0 then (none) else (some (Int.tmod (wrap64 ((wrap64 ((wrap64 ((wrap64 (bt597.1 * 16777216)) + (wrap64 (bt600.1 * 65536)))) + (wrap64 (bt603.1 * 256)))) + bt606.1)) a1, bt606.2.1, bt606.2.2))))))))
set_option maxHeartbeats 8000000 in
set_option maxRecDepth 100000 in
theorem spec_l01Below.calls (g : Nat) (s0_0 : List Int) (s0_1 : Int) (s0_2 : Int) (a1 : Int) (r1 : Int) (r2 : Int) (r3 : Int) (w0 w : World) (hI : IsS88 w0 w g s0_0 s0_1 s0_2) (hB : Below w0.heap.size w0 w) (h : spec_l01Below.f s0_0 s0_1 s0_2 a1 = some (r1, r2, r3)) :
  Calls Try.prog 93 #[.pointer (some ⟨g, 0, none⟩), .int .i64 a1] w fun e w' => e = .returned (.int .i64 r1) ∧ IsS88 w0 w' g s0_0 r2 r3 ∧ Below w0.heap.size w0 w' ∧ KeepBut w w' g none := by
 have HI0 := Aside0.mk hI
 have HK := Aside0.mk (KeepBut.refl w g none)
 have HL := Aside0.mk hB.size
 clear hI
 have HW0 := Aside0.mk hB.size
 have HB := Aside0.mk hB
 clear hB
 have H : (if a1 ≤ 0 then (some (0, s0_1, s0_2)) else (if a1 ≤ 256 then ((spec_l01Byte.f s0_0 s0_1 s0_2).bind fun bt594 => (if a1 = 0 then (none) else (some (Int.tmod bt594.1 a1, bt594.2.1, bt594.2.2)))) else ((spec_l01Byte.f s0_0 s0_1 s0_2).bind fun bt597 => ((spec_l01Byte.f s0_0 bt597.2.1 bt597.2.2).bind fun bt600 => ((spec_l01Byte.f s0_0 bt600.2.1 bt600.2.2).bind fun bt603 => ((spec_l01Byte.f s0_0 bt603.2.1 bt603.2.2).bind fun bt606 => (if a1 = 0 then (none) else (some (Int.tmod (wrap64 ((wrap64 ((wrap64 ((wrap64 (bt597.1 * 16777216)) + (wrap64 (bt600.1 * 65536)))) + (wrap64 (bt603.1 * 256)))) + bt606.1)) a1, bt606.2.1, bt606.2.2))))))))) = some (r1, r2, r3) := h
 clear h
 by_cases c3 : a1 ≤ 0
 ·rw [if_pos c3] at H
  have c3b0 : decide (a1 ≤ 0) = true := decide_eq_true c3
  clear c3
  simp only [Option.some.injEq, Prod.mk.injEq] at H
  obtain ⟨rfl, rfl, rfl⟩ := H
  go_enter Try.func93, Try.ntmps93
  go_wp2
  go_ret
  exact ⟨by first | rfl | (simp [errW_none, errW_some] <;> rfl) | (simp [*, errW_none, errW_some] <;> rfl), by repeat (first | (with_reducible first | exact HI0.out | apply IsS88.alloc | apply IsS88.drewN | apply IsS88.drew | apply IsS88.set_1 | apply IsS88.set_2) | exact HI0.out), by repeat (first | (with_reducible first | exact HB.out | apply below_alloc | apply pw_below_drewN | apply below_drew1 | refine below_set ?_ (IsS88.ge HI0.out)) | exact HB.out), by repeat (first | (with_reducible first | exact HK.out | apply KeepBut.set_ | apply keep_drewN | apply keep_drew | apply keep_alloc) | exact HK.out)⟩
 rw [if_neg c3] at H
 have c3b0 : decide (a1 ≤ 0) = false := decide_eq_false c3
 clear c3
 by_cases c4 : a1 ≤ 256
 ·rw [if_pos c4] at H
  have c4b0 : decide (a1 ≤ 256) = true := decide_eq_true c4
  clear c4
  replace H := Option.bind_eq_some_iff.mp H
  obtain ⟨⟨t594, t595, t596⟩, A50, H⟩ := H
  replace H : (if a1 = 0 then (none) else (some (Int.tmod t594 a1, t595, t596))) = some (r1, r2, r3) := H
  have A5 := Aside0.mk A50
  clear A50
  by_cases c6 : a1 = 0
  ·rw [if_pos c6] at H
   exact absurd H (by simp)
  rw [if_neg c6] at H
  have c6b0 : (a1 == 0) = false := beq_eq_false_iff_ne.mpr c6
  have c6b1 : (a1 != 0) = true := bne_iff_ne.mpr c6
  simp only [Option.some.injEq, Prod.mk.injEq] at H
  obtain ⟨rfl, rfl, rfl⟩ := H
  go_enter Try.func93, Try.ntmps93
  go_wp2_with (first | ((with_reducible refine gate_callee (f := 106) rfl ?_); refine goesM_ (some 14) rfl rfl Try.func106 (by kernel_rfl) rfl #[.pointer (some ⟨g, 0, none⟩)] rfl ?_; (with_reducible refine (spec_l01Byte.calls g s0_0 s0_1 s0_2 t594 t595 t596 w0 _ ?side1 ?side2 A5.out).mono ?_); (case side1 => repeat (first | (with_reducible first | exact HI0.out | apply IsS88.alloc | apply IsS88.drewN | apply IsS88.drew | apply IsS88.set_1 | apply IsS88.set_2) | exact HI0.out)); (case side2 => repeat (first | (with_reducible first | exact HB.out | apply below_alloc | apply pw_below_drewN | apply below_drew1 | refine below_set ?_ (IsS88.ge HI0.out)) | exact HB.out)); rintro e w7 ⟨rfl, hi, hb, hk⟩; refine ⟨_, rfl, ?_⟩; replace HK := Aside0.mk (KeepBut.trans (by repeat (first | (with_reducible first | exact HK.out | apply KeepBut.set_ | apply keep_drewN | apply keep_drew | apply keep_alloc) | exact HK.out)) hk (.inl rfl)); replace HB := Aside0.mk (hb); replace HI0 := Aside0.mk (hi); (try clear hb); (try clear hb2); (try clear hk); (try clear hi)))
  go_ret
  exact ⟨by first | rfl | (simp [errW_none, errW_some] <;> rfl) | (simp [*, errW_none, errW_some] <;> rfl), by repeat (first | (with_reducible first | exact HI0.out | apply IsS88.alloc | apply IsS88.drewN | apply IsS88.drew | apply IsS88.set_1 | apply IsS88.set_2) | exact HI0.out), by repeat (first | (with_reducible first | exact HB.out | apply below_alloc | apply pw_below_drewN | apply below_drew1 | refine below_set ?_ (IsS88.ge HI0.out)) | exact HB.out), by repeat (first | (with_reducible first | exact HK.out | apply KeepBut.set_ | apply keep_drewN | apply keep_drew | apply keep_alloc) | exact HK.out)⟩
 rw [if_neg c4] at H
 have c4b0 : decide (a1 ≤ 256) = false := decide_eq_false c4
 clear c4
 replace H := Option.bind_eq_some_iff.mp H
 obtain ⟨⟨t597, t598, t599⟩, A80, H⟩ := H
 replace H : ((spec_l01Byte.f s0_0 t598 t599).bind fun bt600 => ((spec_l01Byte.f s0_0 bt600.2.1 bt600.2.2).bind fun bt603 => ((spec_l01Byte.f s0_0 bt603.2.1 bt603.2.2).bind fun bt606 => (if a1 = 0 then (none) else (some (Int.tmod (wrap64 ((wrap64 ((wrap64 ((wrap64 (t597 * 16777216)) + (wrap64 (bt600.1 * 65536)))) + (wrap64 (bt603.1 * 256)))) + bt606.1)) a1, bt606.2.1, bt606.2.2)))))) = some (r1, r2, r3) := H
 have A8 := Aside0.mk A80
 clear A80
 replace H := Option.bind_eq_some_iff.mp H
 obtain ⟨⟨t600, t601, t602⟩, A90, H⟩ := H
 replace H : ((spec_l01Byte.f s0_0 t601 t602).bind fun bt603 => ((spec_l01Byte.f s0_0 bt603.2.1 bt603.2.2).bind fun bt606 => (if a1 = 0 then (none) else (some (Int.tmod (wrap64 ((wrap64 ((wrap64 ((wrap64 (t597 * 16777216)) + (wrap64 (t600 * 65536)))) + (wrap64 (bt603.1 * 256)))) + bt606.1)) a1, bt606.2.1, bt606.2.2))))) = some (r1, r2, r3) := H
 have A9 := Aside0.mk A90
 clear A90
 replace H := Option.bind_eq_some_iff.mp H
 obtain ⟨⟨t603, t604, t605⟩, A100, H⟩ := H
 replace H : ((spec_l01Byte.f s0_0 t604 t605).bind fun bt606 => (if a1 = 0 then (none) else (some (Int.tmod (wrap64 ((wrap64 ((wrap64 ((wrap64 (t597 * 16777216)) + (wrap64 (t600 * 65536)))) + (wrap64 (t603 * 256)))) + bt606.1)) a1, bt606.2.1, bt606.2.2)))) = some (r1, r2, r3) := H
 have A10 := Aside0.mk A100
 clear A100
 replace H := Option.bind_eq_some_iff.mp H
 obtain ⟨⟨t606, t607, t608⟩, A110, H⟩ := H
 replace H : (if a1 = 0 then (none) else (some (Int.tmod (wrap64 ((wrap64 ((wrap64 ((wrap64 (t597 * 16777216)) + (wrap64 (t600 * 65536)))) + (wrap64 (t603 * 256)))) + t606)) a1, t607, t608))) = some (r1, r2, r3) := H
 have A11 := Aside0.mk A110
 clear A110
 by_cases c12 : a1 = 0
 ·rw [if_pos c12] at H
  exact absurd H (by simp)
 rw [if_neg c12] at H
 have c12b0 : (a1 == 0) = false := beq_eq_false_iff_ne.mpr c12
 have c12b1 : (a1 != 0) = true := bne_iff_ne.mpr c12
 simp only [Option.some.injEq, Prod.mk.injEq] at H
 obtain ⟨rfl, rfl, rfl⟩ := H
 go_enter Try.func93, Try.ntmps93
 go_wp2_with (first | ((with_reducible refine gate_callee (f := 106) rfl ?_); refine goesM_ (some 18) rfl rfl Try.func106 (by kernel_rfl) rfl #[.pointer (some ⟨g, 0, none⟩)] rfl ?_; (with_reducible refine (spec_l01Byte.calls g s0_0 s0_1 s0_2 t597 t598 t599 w0 _ ?side1 ?side2 A8.out).mono ?_); (case side1 => repeat (first | (with_reducible first | exact HI0.out | apply IsS88.alloc | apply IsS88.drewN | apply IsS88.drew | apply IsS88.set_1 | apply IsS88.set_2) | exact HI0.out)); (case side2 => repeat (first | (with_reducible first | exact HB.out | apply below_alloc | apply pw_below_drewN | apply below_drew1 | refine below_set ?_ (IsS88.ge HI0.out)) | exact HB.out)); rintro e w13 ⟨rfl, hi, hb, hk⟩; refine ⟨_, rfl, ?_⟩; replace HK := Aside0.mk (KeepBut.trans (by repeat (first | (with_reducible first | exact HK.out | apply KeepBut.set_ | apply keep_drewN | apply keep_drew | apply keep_alloc) | exact HK.out)) hk (.inl rfl)); replace HB := Aside0.mk (hb); replace HI0 := Aside0.mk (hi); (try clear hb); (try clear hb2); (try clear hk); (try clear hi)) | ((with_reducible refine gate_callee (f := 106) rfl ?_); refine goesM_ (some 20) rfl rfl Try.func106 (by kernel_rfl) rfl #[.pointer (some ⟨g, 0, none⟩)] rfl ?_; (with_reducible refine (spec_l01Byte.calls g s0_0 t598 t599 t600 t601 t602 w0 _ ?side1 ?side2 A9.out).mono ?_); (case side1 => repeat (first | (with_reducible first | exact HI0.out | apply IsS88.alloc | apply IsS88.drewN | apply IsS88.drew | apply IsS88.set_1 | apply IsS88.set_2) | exact HI0.out)); (case side2 => repeat (first | (with_reducible first | exact HB.out | apply below_alloc | apply pw_below_drewN | apply below_drew1 | refine below_set ?_ (IsS88.ge HI0.out)) | exact HB.out)); rintro e w14 ⟨rfl, hi, hb, hk⟩; refine ⟨_, rfl, ?_⟩; replace HK := Aside0.mk (KeepBut.trans (by repeat (first | (with_reducible first | exact HK.out | apply KeepBut.set_ | apply keep_drewN | apply keep_drew | apply keep_alloc) | exact HK.out)) hk (.inl rfl)); replace HB := Aside0.mk (hb); replace HI0 := Aside0.mk (hi); (try clear hb); (try clear hb2); (try clear hk); (try clear hi)) | ((with_reducible refine gate_callee (f := 106) rfl ?_); refine goesM_ (some 22) rfl rfl Try.func106 (by kernel_rfl) rfl #[.pointer (some ⟨g, 0, none⟩)] rfl ?_; (with_reducible refine (spec_l01Byte.calls g s0_0 t601 t602 t603 t604 t605 w0 _ ?side1 ?side2 A10.out).mono ?_); (case side1 => repeat (first | (with_reducible first | exact HI0.out | apply IsS88.alloc | apply IsS88.drewN | apply IsS88.drew | apply IsS88.set_1 | apply IsS88.set_2) | exact HI0.out)); (case side2 => repeat (first | (with_reducible first | exact HB.out | apply below_alloc | apply pw_below_drewN | apply below_drew1 | refine below_set ?_ (IsS88.ge HI0.out)) | exact HB.out)); rintro e w15 ⟨rfl, hi, hb, hk⟩; refine ⟨_, rfl, ?_⟩; replace HK := Aside0.mk (KeepBut.trans (by repeat (first | (with_reducible first | exact HK.out | apply KeepBut.set_ | apply keep_drewN | apply keep_drew | apply keep_alloc) | exact HK.out)) hk (.inl rfl)); replace HB := Aside0.mk (hb); replace HI0 := Aside0.mk (hi); (try clear hb); (try clear hb2); (try clear hk); (try clear hi)) | ((with_reducible refine gate_callee (f := 106) rfl ?_); refine goesM_ (some 24) rfl rfl Try.func106 (by kernel_rfl) rfl #[.pointer (some ⟨g, 0, none⟩)] rfl ?_; (with_reducible refine (spec_l01Byte.calls g s0_0 t604 t605 t606 t607 t608 w0 _ ?side1 ?side2 A11.out).mono ?_); (case side1 => repeat (first | (with_reducible first | exact HI0.out | apply IsS88.alloc | apply IsS88.drewN | apply IsS88.drew | apply IsS88.set_1 | apply IsS88.set_2) | exact HI0.out)); (case side2 => repeat (first | (with_reducible first | exact HB.out | apply below_alloc | apply pw_below_drewN | apply below_drew1 | refine below_set ?_ (IsS88.ge HI0.out)) | exact HB.out)); rintro e w16 ⟨rfl, hi, hb, hk⟩; refine ⟨_, rfl, ?_⟩; replace HK := Aside0.mk (KeepBut.trans (by repeat (first | (with_reducible first | exact HK.out | apply KeepBut.set_ | apply keep_drewN | apply keep_drew | apply keep_alloc) | exact HK.out)) hk (.inl rfl)); replace HB := Aside0.mk (hb); replace HI0 := Aside0.mk (hi); (try clear hb); (try clear hb2); (try clear hk); (try clear hi)))
 go_ret
 exact ⟨by first | rfl | (simp [errW_none, errW_some] <;> rfl) | (simp [*, errW_none, errW_some] <;> rfl), by repeat (first | (with_reducible first | exact HI0.out | apply IsS88.alloc | apply IsS88.drewN | apply IsS88.drew | apply IsS88.set_1 | apply IsS88.set_2) | exact HI0.out), by repeat (first | (with_reducible first | exact HB.out | apply below_alloc | apply pw_below_drewN | apply below_drew1 | refine below_set ?_ (IsS88.ge HI0.out)) | exact HB.out), by repeat (first | (with_reducible first | exact HK.out | apply KeepBut.set_ | apply keep_drewN | apply keep_drew | apply keep_alloc) | exact HK.out)⟩
def spec_l01In.f (a0 : Int) (a1 : Int) (a2 : Int) : Option (Bool) := if a0 ≥ a1 then (some (decide (a0 ≤ a2))) else (some false)
set_option maxHeartbeats 8000000 in
set_option maxRecDepth 100000 in
theorem spec_l01In.calls (a0 : Int) (a1 : Int) (a2 : Int) (r : Bool) (w : World) (h : spec_l01In.f a0 a1 a2 = some r) :
  Calls Try.prog 63 #[.int .i64 a0, .int .i64 a1, .int .i64 a2] w fun e w' => e = .returned (.bool r) ∧ Drawn0 w w' := by
 have H : (if a0 ≥ a1 then (some (decide (a0 ≤ a2))) else (some false)) = some r := h
 clear h
 by_cases c4 : a0 ≥ a1
 ·rw [if_pos c4] at H
  have c4b0 : decide (a1 ≤ a0) = true := decide_eq_true c4
  clear c4
  obtain rfl := Option.some.inj H
  go_enter Try.func63, Try.ntmps63
  go_wp2
  go_ret
  exact ⟨eqA, by repeat (first | exact Drawn0.refl _ | apply Drawn0.step)⟩
 rw [if_neg c4] at H
 have c4b0 : decide (a1 ≤ a0) = false := decide_eq_false c4
 clear c4
 obtain rfl := Option.some.inj H
 go_enter Try.func63, Try.ntmps63
 go_wp2
 go_ret
 exact ⟨eqA, by repeat (first | exact Drawn0.refl _ | apply Drawn0.step)⟩
mutual
def spec_EdgesOk.j0 : Nat → Bool → Int → List (S57) → Option (Bool)
 | 0, _, _, _ => none
 | k + 1, x14, x133000, x133001 => if x14 = true then (some false) else (spec_EdgesOk.l0 k x133001 (x133001.length : Int) 0 x133000 x133001)
def spec_EdgesOk.l0 : Nat → List (S57) → Int → Int → Int → List (S57) → Option (Bool)
 | 0, _, _, _, _, _ => none
 | k + 1, x16, x17, x18, x133000, x133001 => if x18 < x17 then (if 0 ≤ x18 then (if x18 < (x16.length : Int) then ((spec_l01In.f ((rd_T57 x16 x18).f0) 0 (wrap64 (x133000 - 1))).bind fun t136 => (if t136 = true then ((spec_l01In.f ((rd_T57 x16 x18).f1) (wrap64 (((rd_T57 x16 x18).f0) + 1)) (wrap64 (x133000 - 1))).bind fun t137 => (if t137 = true then (spec_EdgesOk.l0 k x16 x17 (wrap64 (x18 + 1)) x133000 x133001) else (some false))) else (some false))) else (none)) else (none)) else (some true)
end
def spec_EdgesOk.f (k : Nat) (a0_0 : Int) (l0_1 : List (S57)) : Option (Bool) := (spec_l01In.f a0_0 1 6).bind fun t133 => (if t133 = true then (spec_EdgesOk.j0 k (decide ((l0_1.length : Int) > 12)) a0_0 l0_1) else (spec_EdgesOk.j0 k true a0_0 l0_1))
set_option maxHeartbeats 8000000 in
set_option maxRecDepth 100000 in
theorem spec_EdgesOk.calls (k : Nat) (a0_0 : Int) (A0_1 : Option Addr) (c0_1 : Nat) (l0_1 : List (S57)) (r : Bool) (w : World) (hr0_1 : Kd.C k57 w A0_1 l0_1.length l0_1) (hc0_1 : l0_1.length ≤ c0_1) (h : spec_EdgesOk.f k a0_0 l0_1 = some r) :
  Calls Try.prog 80 #[.agg #[.int .i64 a0_0, .slice A0_1 l0_1.length c0_1]] w fun e w' => e = .returned (.bool r) ∧ Below w.heap.size w w' := by
 have hu30 := Try.underlying30
 have hu57 := Try.underlying57
 have HR0_1 := Aside0.mk hr0_1
 have HC0_1 := Aside0.mk hc0_1
 clear hr0_1 hc0_1
 have HB := Aside0.mk (Below.refl w.heap.size w)
 have H : ((spec_l01In.f a0_0 1 6).bind fun t133 => (if t133 = true then (spec_EdgesOk.j0 k (decide ((l0_1.length : Int) > 12)) a0_0 l0_1) else (spec_EdgesOk.j0 k true a0_0 l0_1))) = some r := h
 clear h
 have HC2 := Aside0.mk H
 clear H
 go_enter Try.func80, Try.ntmps80
 go_upto_region 1 with (first | ((with_reducible refine gate_dst (N := 1) rfl ?_); (try (refine gate_guard (by rfl) ?_; dsimp only)); refine box_event ?hg (N := 1) ?hd (cs := #[.int .i64 a0_0, .slice A0_1 l0_1.length c0_1]) (t := 30) ?hr ?_; (case hd => rfl); (case hg => rfl); (case hr => first | (go_simp; done) | (go_simp; rfl)); intro gb132 hg w3 hbox hb; have BK132 := Aside0.mk (hbox); have GW132 := Aside0.mk ((by rw [hg]; exact (below_size (Lz HB)) : w.heap.size ≤ gb132)); have GE132 := Aside0.mk ((by rw [hg]; exact (below_size (Lz HB)) : w.heap.size ≤ gb132)); replace HB := Aside0.mk (below_step (Lz HB) hb); clear hb hbox hg))
 (try simp only [Act.put, List.setIfInBounds_toArray, List.set_cons_zero, List.set_cons_succ])
 go_cut [14] (fun v14 wc => ∃ (kq : Nat) (x14_1 : Bool), v14 = .bool x14_1 ∧ Aside0 (spec_EdgesOk.j0 kq x14_1 a0_0 l0_1 = some r) ∧ Aside0 (kq ≤ k) ∧ Aside0 (wc.heap[gb132]? = some (.cells #[.int .i64 a0_0, (.slice A0_1 l0_1.length c0_1)] 30 (0, 0))) ∧ Aside0 (Below w.heap.size w wc))
 case first =>
  have H := HC2.out
  clear HC2
  replace H := Option.bind_eq_some_iff.mp H
  obtain ⟨t133, A40, H⟩ := H
  replace H : (if t133 = true then (spec_EdgesOk.j0 k (decide ((l0_1.length : Int) > 12)) a0_0 l0_1) else (spec_EdgesOk.j0 k true a0_0 l0_1)) = some r := H
  have A4 := Aside0.mk A40
  clear A40
  by_cases c5 : t133 = true
  ·subst c5
   have H1 : (spec_EdgesOk.j0 k (decide ((l0_1.length : Int) > 12)) a0_0 l0_1) = some r := by rw [if_pos rfl] at H; exact H
   clear H
   have H := H1
   clear H1
   have H' := Aside0.mk H
   clear H
   have hcz6_0 : w3.cell? ⟨gb132, 0, none⟩ = some (.int .i64 a0_0) := (blk_cell BK132.out 0).trans rfl
   have hcz6_1 : w3.cell? ⟨gb132, 1, none⟩ = some (.slice A0_1 l0_1.length c0_1) := (blk_cell BK132.out 1).trans rfl
   have hfz6_0 := blk_frozen BK132.out 0
   have hfz6_1 := blk_frozen BK132.out 1
   go_wp2_with (first | ((with_reducible refine gate_callee (f := 63) rfl ?_); refine goesM_ (some 7) rfl rfl Try.func63 (by kernel_rfl) rfl #[.int .i64 a0_0, .int .i64 1, .int .i64 6] rfl ?_; (with_reducible refine (spec_l01In.calls a0_0 1 6 true _ A4.out).mono ?_); rintro e w' ⟨rfl, ⟨nd, rfl⟩⟩; refine ⟨_, rfl, ?_⟩))
   go_meet
   case rel => exact ⟨_, (decide ((l0_1.length : Int) > 12)), eqA, H', ⟨by first | omega | exact Nat.le_refl _⟩, ⟨by exact Bz BK132⟩, ⟨by exact Lz1 HB GE132⟩⟩
  replace c5 := Bool.eq_false_iff.mpr c5
  subst c5
  have H1 : (spec_EdgesOk.j0 k true a0_0 l0_1) = some r := by rw [if_neg (show ¬ (false = true) by decide)] at H; exact H
  clear H
  have H := H1
  clear H1
  have H' := Aside0.mk H
  clear H
  have hcz7_0 : w3.cell? ⟨gb132, 0, none⟩ = some (.int .i64 a0_0) := (blk_cell BK132.out 0).trans rfl
  have hcz7_1 : w3.cell? ⟨gb132, 1, none⟩ = some (.slice A0_1 l0_1.length c0_1) := (blk_cell BK132.out 1).trans rfl
  have hfz7_0 := blk_frozen BK132.out 0
  have hfz7_1 := blk_frozen BK132.out 1
  go_wp2_with (first | ((with_reducible refine gate_callee (f := 63) rfl ?_); refine goesM_ (some 7) rfl rfl Try.func63 (by kernel_rfl) rfl #[.int .i64 a0_0, .int .i64 1, .int .i64 6] rfl ?_; (with_reducible refine (spec_l01In.calls a0_0 1 6 false _ A4.out).mono ?_); rintro e w' ⟨rfl, ⟨nd, rfl⟩⟩; refine ⟨_, rfl, ?_⟩))
  go_meet
  case rel => exact ⟨_, (true), eqA, H', ⟨by first | omega | exact Nat.le_refl _⟩, ⟨by exact Bz BK132⟩, ⟨by exact Lz1 HB GE132⟩⟩
 case rest =>
  clear HC2
  try clear c5
  obtain ⟨kq, x14_1, rfl, HA, HJ1, BK132, HB⟩ := hcut
  cases kq with
  | zero => exact absurd HA.out (by simp [spec_EdgesOk.j0])
  | succ kj1 =>
   have H := HA.out
   clear HA
   simp only [spec_EdgesOk.j0] at H
   by_cases c8 : x14_1 = true
   ·subst c8
    have H1 : (some false) = some r := by rw [if_pos rfl] at H; exact H
    clear H
    have H := H1
    clear H1
    obtain rfl := Option.some.inj H
    go_wp2
    go_ret
    exact ⟨by first | rfl | (simp [errW_none, errW_some] <;> rfl) | (simp [*, errW_none, errW_some] <;> rfl), by exact Lz1 HB GE132⟩
   replace c8 := Bool.eq_false_iff.mpr c8
   subst c8
   have H1 : (spec_EdgesOk.l0 kj1 l0_1 (l0_1.length : Int) 0 a0_0 l0_1) = some r := by rw [if_neg (show ¬ (false = true) by decide)] at H; exact H
   clear H
   have H := H1
   clear H1
   have H' := Aside0.mk H
   clear H
   have hcz9_0 : wc.cell? ⟨gb132, 0, none⟩ = some (.int .i64 a0_0) := (blk_cell BK132.out 0).trans rfl
   have hcz9_1 : wc.cell? ⟨gb132, 1, none⟩ = some (.slice A0_1 l0_1.length c0_1) := (blk_cell BK132.out 1).trans rfl
   have hfz9_0 := blk_frozen BK132.out 0
   have hfz9_1 := blk_frozen BK132.out 1
   go_wp2
   go_loopg [18] kj1 (fun kq v18 w' => ∃ (x18_2 : Int), v18 = .int .i64 x18_2 ∧ Aside0 (spec_EdgesOk.l0 kq l0_1 (l0_1.length : Int) x18_2 a0_0 l0_1 = some r) ∧ Aside0 (kq ≤ kj1) ∧ Aside0 (w'.heap[gb132]? = some (.cells #[.int .i64 a0_0, (.slice A0_1 l0_1.length c0_1)] 30 (0, 0))) ∧ Aside0 (Below w.heap.size w w'))
   case atStart => exact ⟨(0), eqA, H', ⟨Nat.le_refl _⟩, ⟨by exact Bz BK132⟩, ⟨by exact Lz1 HB GE132⟩⟩
   case round =>
    clear H'
    try clear c5
    try clear c8
    obtain ⟨x18_2, rfl, HA, HK2, BK132, HB⟩ := hrel
    cases gk with
    | zero => exact absurd HA.out (by simp [spec_EdgesOk.l0])
    | succ k2 =>
     have H := HA.out
     clear HA
     simp only [spec_EdgesOk.l0] at H
     by_cases c10 : x18_2 < (l0_1.length : Int)
     ·rw [if_pos c10] at H
      have c10b0 : decide (x18_2 < (l0_1.length : Int)) = true := decide_eq_true c10
      clear c10
      by_cases c11 : 0 ≤ x18_2
      ·rw [if_pos c11] at H
       have c11b0 : decide (0 ≤ x18_2) = true := decide_eq_true c11
       clear c11
       by_cases c12 : x18_2 < (l0_1.length : Int)
       ·rw [if_pos c12] at H
        have c12b0 : decide (x18_2 < (l0_1.length : Int)) = true := decide_eq_true c12
        clear c12
        replace H := Option.bind_eq_some_iff.mp H
        obtain ⟨t136, A130, H⟩ := H
        replace H : (if t136 = true then ((spec_l01In.f ((rd_T57 l0_1 x18_2).f1) (wrap64 (((rd_T57 l0_1 x18_2).f0) + 1)) (wrap64 (a0_0 - 1))).bind fun t137 => (if t137 = true then (spec_EdgesOk.l0 k2 l0_1 (l0_1.length : Int) (wrap64 (x18_2 + 1)) a0_0 l0_1) else (some false))) else (some false)) = some r := H
        have A13 := Aside0.mk A130
        clear A130
        by_cases c14 : t136 = true
        ·subst c14
         have H1 : ((spec_l01In.f ((rd_T57 l0_1 x18_2).f1) (wrap64 (((rd_T57 l0_1 x18_2).f0) + 1)) (wrap64 (a0_0 - 1))).bind fun t137 => (if t137 = true then (spec_EdgesOk.l0 k2 l0_1 (l0_1.length : Int) (wrap64 (x18_2 + 1)) a0_0 l0_1) else (some false))) = some r := by rw [if_pos rfl] at H; exact H
         clear H
         have H := H1
         clear H1
         replace H := Option.bind_eq_some_iff.mp H
         obtain ⟨t137, A150, H⟩ := H
         replace H : (if t137 = true then (spec_EdgesOk.l0 k2 l0_1 (l0_1.length : Int) (wrap64 (x18_2 + 1)) a0_0 l0_1) else (some false)) = some r := H
         have A15 := Aside0.mk A150
         clear A150
         by_cases c16 : t137 = true
         ·subst c16
          have H1 : (spec_EdgesOk.l0 k2 l0_1 (l0_1.length : Int) (wrap64 (x18_2 + 1)) a0_0 l0_1) = some r := by rw [if_pos rfl] at H; exact H
          clear H
          have H := H1
          clear H1
          have H' := Aside0.mk H
          clear H
          have p134 : 0 ≤ (x18_2 : Int) := ofA
          have q134 : x18_2 < (l0_1.length : Int) := ofA
          obtain ⟨ad134, e134, hx134_0, hx134_1⟩ := at_T57 HR0_1.out x18_2 p134 q134
          cases e134
          replace hx134_0 := (HB.out.cell (World.block_lt_of_cell? w _ hx134_0)).trans hx134_0
          replace hx134_1 := (HB.out.cell (World.block_lt_of_cell? w _ hx134_1)).trans hx134_1
          replace p134 := eq_true p134
          replace q134 := eq_true q134
          go_wp2_with (first | ((with_reducible refine gate_dst (N := 4) rfl ?_); (try (refine gate_guard (by rfl) ?_; dsimp only)); refine box_event ?hg (N := 4) ?hd (cs := #[.int .i64 0, .int .i64 0]) (t := 57) ?hr ?_; (case hd => rfl); (case hg => rfl); (case hr => first | (go_simp; done) | (go_simp; rfl)); intro gb135 hg w17 hbox hb; have BK135 := Aside0.mk (hbox); have GW135 := Aside0.mk ((by rw [hg]; exact (below_size (by exact Lz1 HB GE132)) : w.heap.size ≤ gb135)); have GE135 := Aside0.mk ((by rw [hg]; exact (below_size (by exact Lz1 HB GE132)) : w.heap.size ≤ gb135)); replace HB := Aside0.mk (below_step (by exact Lz1 HB GE132) hb); have NB132_135 := Aside0.mk ((by rw [hg]; exact Nat.ne_of_lt (blk_lt (g := gb132) (o := .cells #[.int .i64 a0_0, .slice (some ad134) l0_1.length c0_1] 30 (0, 0)) (Bz BK132)) : gb132 ≠ gb135)); have NB135_132 := Aside0.mk ((by rw [hg]; exact Nat.ne_of_gt (blk_lt (g := gb132) (o := .cells #[.int .i64 a0_0, .slice (some ad134) l0_1.length c0_1] 30 (0, 0)) (Bz BK132)) : gb135 ≠ gb132)); replace BK132 := Aside0.mk (blk_below (g := gb132) (o := .cells #[.int .i64 a0_0, .slice (some ad134) l0_1.length c0_1] 30 (0, 0)) (Bz BK132) hb); clear hb hbox hg; have hnb18 := NB135_132.out; have hnc18 := NB132_135.out; have hcz19_0 : w17.cell? ⟨gb135, 0, none⟩ = some (.int .i64 0) := (blk_cell BK135.out 0).trans rfl; have hcz19_1 : w17.cell? ⟨gb135, 1, none⟩ = some (.int .i64 0) := (blk_cell BK135.out 1).trans rfl; have hfz19_0 := blk_frozen BK135.out 0; have hfz19_1 := blk_frozen BK135.out 1; have hcz20_0 : w17.cell? ⟨gb132, 0, none⟩ = some (.int .i64 a0_0) := (blk_cell BK132.out 0).trans rfl; have hcz20_1 : w17.cell? ⟨gb132, 1, none⟩ = some (.slice (some ad134) l0_1.length c0_1) := (blk_cell BK132.out 1).trans rfl; have hfz20_0 := blk_frozen BK132.out 0; have hfz20_1 := blk_frozen BK132.out 1) | ((with_reducible refine gate_callee (f := 63) rfl ?_); refine goesM_ (some 27) rfl rfl Try.func63 (by kernel_rfl) rfl #[.int .i64 ((rd_T57 l0_1 x18_2).f0), .int .i64 0, .int .i64 (wrap64 (a0_0 - 1))] rfl ?_; (with_reducible refine (spec_l01In.calls ((rd_T57 l0_1 x18_2).f0) 0 (wrap64 (a0_0 - 1)) true _ A13.out).mono ?_); rintro e w' ⟨rfl, ⟨nd, rfl⟩⟩; refine ⟨_, rfl, ?_⟩) | (go_at_call 63; (with_reducible refine (spec_l01In.calls ((rd_T57 l0_1 x18_2).f1) (wrap64 (((rd_T57 l0_1 x18_2).f0) + 1)) (wrap64 (a0_0 - 1)) true _ A15.out).mono ?_); rintro e w' ⟨rfl, ⟨nd, rfl⟩⟩))
          go_roundg k2
          case measure => have := HJ1.out; have := HK2.out; omega
          case rel => exact ⟨(wrap64 (x18_2 + 1)), eqA, H', ⟨by have := HJ1.out; have := HK2.out; omega⟩, ⟨by (with_reducible repeat (first | refine blk_drewN ?_ _ | refine blk_drew ?_ | refine blk_alloc ?_ _)); refine blk_far ?_ NB132_135.out _; (with_reducible repeat (first | refine blk_drewN ?_ _ | refine blk_drew ?_ | refine blk_alloc ?_ _)); refine blk_far ?_ NB132_135.out _; exact Bz BK132⟩, ⟨by exact Lz2 HB GE132 GE135⟩⟩
         replace c16 := Bool.eq_false_iff.mpr c16
         subst c16
         have H1 : (some false) = some r := by rw [if_neg (show ¬ (false = true) by decide)] at H; exact H
         clear H
         have H := H1
         clear H1
         obtain rfl := Option.some.inj H
         have p134 : 0 ≤ (x18_2 : Int) := ofA
         have q134 : x18_2 < (l0_1.length : Int) := ofA
         obtain ⟨ad134, e134, hx134_0, hx134_1⟩ := at_T57 HR0_1.out x18_2 p134 q134
         cases e134
         replace hx134_0 := (HB.out.cell (World.block_lt_of_cell? w _ hx134_0)).trans hx134_0
         replace hx134_1 := (HB.out.cell (World.block_lt_of_cell? w _ hx134_1)).trans hx134_1
         replace p134 := eq_true p134
         replace q134 := eq_true q134
         go_wp2_with (first | ((with_reducible refine gate_dst (N := 4) rfl ?_); (try (refine gate_guard (by rfl) ?_; dsimp only)); refine box_event ?hg (N := 4) ?hd (cs := #[.int .i64 0, .int .i64 0]) (t := 57) ?hr ?_; (case hd => rfl); (case hg => rfl); (case hr => first | (go_simp; done) | (go_simp; rfl)); intro gb135 hg w21 hbox hb; have BK135 := Aside0.mk (hbox); have GW135 := Aside0.mk ((by rw [hg]; exact (below_size (by exact Lz1 HB GE132)) : w.heap.size ≤ gb135)); have GE135 := Aside0.mk ((by rw [hg]; exact (below_size (by exact Lz1 HB GE132)) : w.heap.size ≤ gb135)); replace HB := Aside0.mk (below_step (by exact Lz1 HB GE132) hb); have NB132_135 := Aside0.mk ((by rw [hg]; exact Nat.ne_of_lt (blk_lt (g := gb132) (o := .cells #[.int .i64 a0_0, .slice (some ad134) l0_1.length c0_1] 30 (0, 0)) (Bz BK132)) : gb132 ≠ gb135)); have NB135_132 := Aside0.mk ((by rw [hg]; exact Nat.ne_of_gt (blk_lt (g := gb132) (o := .cells #[.int .i64 a0_0, .slice (some ad134) l0_1.length c0_1] 30 (0, 0)) (Bz BK132)) : gb135 ≠ gb132)); replace BK132 := Aside0.mk (blk_below (g := gb132) (o := .cells #[.int .i64 a0_0, .slice (some ad134) l0_1.length c0_1] 30 (0, 0)) (Bz BK132) hb); clear hb hbox hg; have hnb22 := NB135_132.out; have hnc22 := NB132_135.out; have hcz23_0 : w21.cell? ⟨gb135, 0, none⟩ = some (.int .i64 0) := (blk_cell BK135.out 0).trans rfl; have hcz23_1 : w21.cell? ⟨gb135, 1, none⟩ = some (.int .i64 0) := (blk_cell BK135.out 1).trans rfl; have hfz23_0 := blk_frozen BK135.out 0; have hfz23_1 := blk_frozen BK135.out 1; have hcz24_0 : w21.cell? ⟨gb132, 0, none⟩ = some (.int .i64 a0_0) := (blk_cell BK132.out 0).trans rfl; have hcz24_1 : w21.cell? ⟨gb132, 1, none⟩ = some (.slice (some ad134) l0_1.length c0_1) := (blk_cell BK132.out 1).trans rfl; have hfz24_0 := blk_frozen BK132.out 0; have hfz24_1 := blk_frozen BK132.out 1) | ((with_reducible refine gate_callee (f := 63) rfl ?_); refine goesM_ (some 27) rfl rfl Try.func63 (by kernel_rfl) rfl #[.int .i64 ((rd_T57 l0_1 x18_2).f0), .int .i64 0, .int .i64 (wrap64 (a0_0 - 1))] rfl ?_; (with_reducible refine (spec_l01In.calls ((rd_T57 l0_1 x18_2).f0) 0 (wrap64 (a0_0 - 1)) true _ A13.out).mono ?_); rintro e w' ⟨rfl, ⟨nd, rfl⟩⟩; refine ⟨_, rfl, ?_⟩) | (go_at_call 63; (with_reducible refine (spec_l01In.calls ((rd_T57 l0_1 x18_2).f1) (wrap64 (((rd_T57 l0_1 x18_2).f0) + 1)) (wrap64 (a0_0 - 1)) false _ A15.out).mono ?_); rintro e w' ⟨rfl, ⟨nd, rfl⟩⟩))
         go_ret
         exact ⟨by first | rfl | (simp [errW_none, errW_some] <;> rfl) | (simp [*, errW_none, errW_some] <;> rfl), by exact Lz2 HB GE132 GE135⟩
        replace c14 := Bool.eq_false_iff.mpr c14
        subst c14
        have H1 : (some false) = some r := by rw [if_neg (show ¬ (false = true) by decide)] at H; exact H
        clear H
        have H := H1
        clear H1
        obtain rfl := Option.some.inj H
        have p134 : 0 ≤ (x18_2 : Int) := ofA
        have q134 : x18_2 < (l0_1.length : Int) := ofA
        obtain ⟨ad134, e134, hx134_0, hx134_1⟩ := at_T57 HR0_1.out x18_2 p134 q134
        cases e134
        replace hx134_0 := (HB.out.cell (World.block_lt_of_cell? w _ hx134_0)).trans hx134_0
        replace hx134_1 := (HB.out.cell (World.block_lt_of_cell? w _ hx134_1)).trans hx134_1
        replace p134 := eq_true p134
        replace q134 := eq_true q134
        go_wp2_with (first | ((with_reducible refine gate_dst (N := 4) rfl ?_); (try (refine gate_guard (by rfl) ?_; dsimp only)); refine box_event ?hg (N := 4) ?hd (cs := #[.int .i64 0, .int .i64 0]) (t := 57) ?hr ?_; (case hd => rfl); (case hg => rfl); (case hr => first | (go_simp; done) | (go_simp; rfl)); intro gb135 hg w25 hbox hb; have BK135 := Aside0.mk (hbox); have GW135 := Aside0.mk ((by rw [hg]; exact (below_size (by exact Lz1 HB GE132)) : w.heap.size ≤ gb135)); have GE135 := Aside0.mk ((by rw [hg]; exact (below_size (by exact Lz1 HB GE132)) : w.heap.size ≤ gb135)); replace HB := Aside0.mk (below_step (by exact Lz1 HB GE132) hb); have NB132_135 := Aside0.mk ((by rw [hg]; exact Nat.ne_of_lt (blk_lt (g := gb132) (o := .cells #[.int .i64 a0_0, .slice (some ad134) l0_1.length c0_1] 30 (0, 0)) (Bz BK132)) : gb132 ≠ gb135)); have NB135_132 := Aside0.mk ((by rw [hg]; exact Nat.ne_of_gt (blk_lt (g := gb132) (o := .cells #[.int .i64 a0_0, .slice (some ad134) l0_1.length c0_1] 30 (0, 0)) (Bz BK132)) : gb135 ≠ gb132)); replace BK132 := Aside0.mk (blk_below (g := gb132) (o := .cells #[.int .i64 a0_0, .slice (some ad134) l0_1.length c0_1] 30 (0, 0)) (Bz BK132) hb); clear hb hbox hg; have hnb26 := NB135_132.out; have hnc26 := NB132_135.out; have hcz27_0 : w25.cell? ⟨gb135, 0, none⟩ = some (.int .i64 0) := (blk_cell BK135.out 0).trans rfl; have hcz27_1 : w25.cell? ⟨gb135, 1, none⟩ = some (.int .i64 0) := (blk_cell BK135.out 1).trans rfl; have hfz27_0 := blk_frozen BK135.out 0; have hfz27_1 := blk_frozen BK135.out 1; have hcz28_0 : w25.cell? ⟨gb132, 0, none⟩ = some (.int .i64 a0_0) := (blk_cell BK132.out 0).trans rfl; have hcz28_1 : w25.cell? ⟨gb132, 1, none⟩ = some (.slice (some ad134) l0_1.length c0_1) := (blk_cell BK132.out 1).trans rfl; have hfz28_0 := blk_frozen BK132.out 0; have hfz28_1 := blk_frozen BK132.out 1) | ((with_reducible refine gate_callee (f := 63) rfl ?_); refine goesM_ (some 27) rfl rfl Try.func63 (by kernel_rfl) rfl #[.int .i64 ((rd_T57 l0_1 x18_2).f0), .int .i64 0, .int .i64 (wrap64 (a0_0 - 1))] rfl ?_; (with_reducible refine (spec_l01In.calls ((rd_T57 l0_1 x18_2).f0) 0 (wrap64 (a0_0 - 1)) false _ A13.out).mono ?_); rintro e w' ⟨rfl, ⟨nd, rfl⟩⟩; refine ⟨_, rfl, ?_⟩))
        go_ret
        exact ⟨by first | rfl | (simp [errW_none, errW_some] <;> rfl) | (simp [*, errW_none, errW_some] <;> rfl), by exact Lz2 HB GE132 GE135⟩
       rw [if_neg c12] at H
       exact absurd H (by simp)
      rw [if_neg c11] at H
      exact absurd H (by simp)
     rw [if_neg c10] at H
     have c10b0 : decide (x18_2 < (l0_1.length : Int)) = false := decide_eq_false c10
     clear c10
     obtain rfl := Option.some.inj H
     go_wp2
     go_ret
     exact ⟨by first | rfl | (simp [errW_none, errW_some] <;> rfl) | (simp [*, errW_none, errW_some] <;> rfl), by exact Lz1 HB GE132⟩
def spec_l02Has.l0 : Nat → Int → List Int → Int → Int → Option (Bool)
 | 0, _, _, _, _ => none
 | k + 1, x1, x7, x8, x9 => if x9 < x8 then (if 0 ≤ x9 then (if x9 < (x7.length : Int) then (if (rd x7 x9) = x1 then (some true) else (spec_l02Has.l0 k x1 x7 x8 (wrap64 (x9 + 1)))) else (none)) else (none)) else (some false)
def spec_l02Has.f (k : Nat) (l0 : List Int) (a1 : Int) : Option (Bool) := spec_l02Has.l0 k a1 l0 (l0.length : Int) 0
set_option maxHeartbeats 8000000 in
set_option maxRecDepth 100000 in
theorem spec_l02Has.calls (k : Nat) (A0 : Option Addr) (c0 : Nat) (l0 : List Int) (a1 : Int) (r : Bool) (w : World) (hr0 : Kd.C (Kd.int .i64) w A0 l0.length l0) (hc0 : l0.length ≤ c0) (h : spec_l02Has.f k l0 a1 = some r) :
  Calls Try.prog 92 #[.slice A0 l0.length c0, .int .i64 a1] w fun e w' => e = .returned (.bool r) ∧ Drawn0 w w' := by
 have HR0 := Aside0.mk hr0
 have HC0 := Aside0.mk hc0
 clear hr0 hc0
 have H : (spec_l02Has.l0 k a1 l0 (l0.length : Int) 0) = some r := h
 clear h
 have H' := Aside0.mk H
 clear H
 go_enter Try.func92, Try.ntmps92
 go_wp2
 go_loopg [9] k (fun kq v9 w' => ∃ (x9_1 : Int), v9 = .int .i64 x9_1 ∧ Aside0 (spec_l02Has.l0 kq a1 l0 (l0.length : Int) x9_1 = some r) ∧ Aside0 (kq ≤ k) ∧ Drawn0 w w')
 case atStart => exact ⟨(0), eqA, H', ⟨Nat.le_refl _⟩, by repeat (first | exact Drawn0.refl _ | apply Drawn0.step)⟩
 case round =>
  clear H'
  obtain ⟨x9_1, rfl, HA, HK1, ⟨m1, rfl⟩⟩ := hrel
  cases gk with
  | zero => exact absurd HA.out (by simp [spec_l02Has.l0])
  | succ k1 =>
   have H := HA.out
   clear HA
   simp only [spec_l02Has.l0] at H
   by_cases c3 : x9_1 < (l0.length : Int)
   ·rw [if_pos c3] at H
    have c3b0 : decide (x9_1 < (l0.length : Int)) = true := decide_eq_true c3
    clear c3
    by_cases c4 : 0 ≤ x9_1
    ·rw [if_pos c4] at H
     have c4b0 : decide (0 ≤ x9_1) = true := decide_eq_true c4
     clear c4
     by_cases c5 : x9_1 < (l0.length : Int)
     ·rw [if_pos c5] at H
      have c5b0 : decide (x9_1 < (l0.length : Int)) = true := decide_eq_true c5
      clear c5
      by_cases c6 : (rd l0 x9_1) = a1
      ·rw [if_pos c6] at H
       have c6b0 : ((rd l0 x9_1) == a1) = true := beq_iff_eq.mpr c6
       have c6b1 : ((rd l0 x9_1) != a1) = false := bne_eq_false_iff_eq.mpr c6
       clear c6
       obtain rfl := Option.some.inj H
       have p138 : 0 ≤ (x9_1 : Int) := ofA
       have q138 : x9_1 < (l0.length : Int) := ofA
       obtain ⟨ad138, e138, hx138_0⟩ := Kd.at_int HR0.out x9_1 p138 q138
       cases e138
       replace p138 := eq_true p138
       replace q138 := eq_true q138
       go_wp2
       go_ret
       exact ⟨eqA, by repeat (first | exact Drawn0.refl _ | apply Drawn0.step)⟩
      rw [if_neg c6] at H
      have c6b0 : ((rd l0 x9_1) == a1) = false := beq_eq_false_iff_ne.mpr c6
      have c6b1 : ((rd l0 x9_1) != a1) = true := bne_iff_ne.mpr c6
      have H' := Aside0.mk H
      clear H
      have p138 : 0 ≤ (x9_1 : Int) := ofA
      have q138 : x9_1 < (l0.length : Int) := ofA
      obtain ⟨ad138, e138, hx138_0⟩ := Kd.at_int HR0.out x9_1 p138 q138
      cases e138
      replace p138 := eq_true p138
      replace q138 := eq_true q138
      go_wp2
      go_roundg k1
      case measure => have := HK1.out; omega
      case rel => exact ⟨(wrap64 (x9_1 + 1)), eqA, H', ⟨by have := HK1.out; omega⟩, by repeat (first | exact Drawn0.refl _ | apply Drawn0.step)⟩
     rw [if_neg c5] at H
     exact absurd H (by simp)
    rw [if_neg c4] at H
    exact absurd H (by simp)
   rw [if_neg c3] at H
   have c3b0 : decide (x9_1 < (l0.length : Int)) = false := decide_eq_false c3
   clear c3
   obtain rfl := Option.some.inj H
   go_wp2
   go_ret
   exact ⟨eqA, by repeat (first | exact Drawn0.refl _ | apply Drawn0.step)⟩
end Go.Proofs.Ytplcclifmajcfaa.P
end
