/- Functions of the program as plain Lean functions and that the machine's calls answer as they do, the words of the print that these use, lemmas and plain proofs of laws. Put together by a program of this work that leaves out what nothing uses; Lean checks it. -/
import Derived.Test.YtplcclifmajcfaaG0578f0b4fd
import Derived.Test.YtplcclifmajcfaaG43342d7f54
import Derived.Test.YtplcclifmajcfaaGb6fdee9194
section
namespace Go.Proofs.Ytplcclifmajcfaa.P
open Go.RowKit Go.Proofs.YtplcclifmajcfaaW.PrintWords Go.Proofs.YtplcclifmajcfaaW.PrintLast Go.Proofs.YtplcclifmajcfaaW.PrintMore
attribute [local go_sem] max2_int min2_int max_two min_two max_three min_three max_four min_four
set_option linter.unusedVariables false
set_option linter.unusedSimpArgs false
mutual
def impl_InvariantFactors.j0 : Nat → List (List Int) → Bool → Option (List Int)
 | 0, _, _ => none
 | k + 1, x0, x16 => if x16 = true then (some ([] : List Int)) else (if 0 ≤ (wrap64 ((x0.length : Int) + 1)) then (if (wrap64 ((x0.length : Int) + 1) : Int).toNat ≤ 35184372088832 then (impl_InvariantFactors.l0 k x0 (List.replicate (wrap64 ((x0.length : Int) + 1) : Int).toNat 0) 0) else (none)) else (none))
def impl_InvariantFactors.l0 : Nat → List (List Int) → List Int → Int → Option (List Int)
 | 0, _, _, _ => none
 | k + 1, x0, x3, x4 => if x4 < (shl .i64 1 (x0.length : Int)) then ((impl_bitsOf.f k x4).bind fun t542 => (impl_InvariantFactors.l1 k x0 x3 x4 t542 0)) else (impl_InvariantFactors.l2 k x3 ([] : List Int) (x0.length : Int) 0)
def impl_InvariantFactors.l1 : Nat → List (List Int) → List Int → Int → List Int → Int → Option (List Int)
 | 0, _, _, _, _, _ => none
 | k + 1, x0, x3, x4, x5, x6 => if x6 < (shl .i64 1 (x0.length : Int)) then ((impl_bitsOf.f k x6).bind fun t545 => (if (t545.length : Int) = (x5.length : Int) then (if 0 ≤ (x5.length : Int) then (if (x5.length : Int) < (x3.length : Int) then ((impl_determinant.f k x0 x5 x6).bind fun t549 => ((impl_divisor.f k (rd x3 (x5.length : Int)) t549).bind fun t550 => (impl_InvariantFactors.l1 k x0 (x3.set ((x5.length : Int) : Int).toNat t550) x4 x5 (wrap64 (x6 + 1))))) else (none)) else (none)) else (impl_InvariantFactors.l1 k x0 x3 x4 x5 (wrap64 (x6 + 1))))) else (impl_InvariantFactors.l0 k x0 x3 (wrap64 (x4 + 1)))
def impl_InvariantFactors.l2 : Nat → List Int → List Int → Int → Int → Option (List Int)
 | 0, _, _, _, _ => none
 | k + 1, x3, x7, x58, x59 => if x59 < x58 then (if 0 ≤ (wrap64 (x59 + 1)) then (if (wrap64 (x59 + 1)) < (x3.length : Int) then (if (rd x3 (wrap64 (x59 + 1))) = 0 then (if x7.length < 17592186044416 then (impl_InvariantFactors.l2 k x3 (x7 ++ [0]) x58 (wrap64 (x59 + 1))) else (none)) else (if 0 ≤ x59 then (if x59 < (x3.length : Int) then (if (rd x3 x59) = 0 then (none) else (if x7.length < 17592186044416 then (impl_InvariantFactors.l2 k x3 (x7 ++ [wrap64 (Int.tdiv (rd x3 (wrap64 (x59 + 1))) (rd x3 x59))]) x58 (wrap64 (x59 + 1))) else (none))) else (none)) else (none))) else (none)) else (none)) else (some x7)
end
def impl_InvariantFactors.f (k : Nat) (l0 : List (List Int)) : Option (List Int) := (impl_MatrixOk.f k l0).bind fun t538 => (if t538 = true then (impl_InvariantFactors.j0 k l0 ((l0.length : Int) == 0)) else (impl_InvariantFactors.j0 k l0 true))
def impl_InvariantFactors.T12 : Bool × List (List Nat × List Nat) := (true, [([], []), ([], []), ([1], [1]), ([], []), ([], []), ([4], [4]), ([3, 5], [3, 5]), ([6], [6]), ([], []), ([], []), ([], []), ([8, 9, 10], [8, 9, 10]), ([7, 11, 11], [7, 11]), ([0, 2, 0, 1, 2, 3, 4, 5, 6, 7, 8, 9, 10, 11, 12], [0, 2]), ([13, 12, 12, 0, 1, 2, 3, 4, 5, 6, 7, 8, 9, 10, 11, 12], [12, 13])])
def impl_InvariantFactors.B12 : List Nat := [0, 0, 2, 0, 0, 16, 56, 120, 0, 0, 0, 1792, 4088, 8191, 16383]
theorem impl_InvariantFactors.tab12 : rtab .any (opsOf Try.f23 12) = impl_InvariantFactors.T12 := by kernel_rfl
theorem impl_InvariantFactors.bits12 : waitsOk impl_InvariantFactors.T12.2 impl_InvariantFactors.B12 = true := by kernel_rfl
def impl_InvariantFactors.T19 : Bool × List (List Nat × List Nat) := (true, [([], []), ([], []), ([], []), ([2], [2]), ([1, 3], [1, 3]), ([4], [4]), ([], []), ([], []), ([6, 7], [6, 7]), ([8], [8]), ([5, 9], [5, 9]), ([10], [10]), ([0, 11], [0, 11]), ([12, 12, 0, 1, 2, 3, 4, 5, 6, 7, 8, 9, 10, 11, 12], [0, 12])])
def impl_InvariantFactors.B19 : List Nat := [0, 0, 0, 4, 14, 30, 0, 0, 192, 448, 1022, 2046, 4095, 8191]
theorem impl_InvariantFactors.tab19 : rtab .any (opsOf Try.f23 19) = impl_InvariantFactors.T19 := by kernel_rfl
theorem impl_InvariantFactors.bits19 : waitsOk impl_InvariantFactors.T19.2 impl_InvariantFactors.B19 = true := by kernel_rfl
set_option maxHeartbeats 8000000 in
set_option maxRecDepth 100000 in
theorem impl_InvariantFactors.calls (k : Nat) (A0 : Option Addr) (c0 : Nat) (l0 : List (List Int)) (r : List Int) (w : World) (hr0 : Kd.C (Kd.slice 3 (Kd.int .i64)) w A0 l0.length l0) (hc0 : l0.length ≤ c0) (h : impl_InvariantFactors.f k l0 = some r) :
  Calls Try.prog 23 #[.slice A0 l0.length c0] w fun e w' => ∃ v0_ : Value, e = .returned (v0_) ∧ Kd.R (Kd.int .i64) 3 w' w.heap.size (fun _ => True) v0_ r ∧ Below w.heap.size w w' := by
 have HR0 := Aside0.mk hr0
 have HC0 := Aside0.mk hc0
 clear hr0 hc0
 have HB := Aside0.mk (Below.refl w.heap.size w)
 have H : ((impl_MatrixOk.f k l0).bind fun t538 => (if t538 = true then (impl_InvariantFactors.j0 k l0 ((l0.length : Int) == 0)) else (impl_InvariantFactors.j0 k l0 true))) = some r := h
 clear h
 have HC2 := Aside0.mk H
 clear H
 go_enter Try.func23, Try.ntmps23
 go_upto_region 1 with (fail)
 go_cut [16] (fun v16 wc => ∃ (kq : Nat) (x16_1 : Bool), v16 = .bool x16_1 ∧ Aside0 (impl_InvariantFactors.j0 kq l0 x16_1 = some r) ∧ Aside0 (kq ≤ k) ∧ Aside0 (Below w.heap.size w wc))
 case first =>
  have H := HC2.out
  clear HC2
  replace H := Option.bind_eq_some_iff.mp H
  obtain ⟨t538, A30, H⟩ := H
  replace H : (if t538 = true then (impl_InvariantFactors.j0 k l0 ((l0.length : Int) == 0)) else (impl_InvariantFactors.j0 k l0 true)) = some r := H
  have A3 := Aside0.mk A30
  clear A30
  by_cases c4 : t538 = true
  ·subst c4
   have H1 : (impl_InvariantFactors.j0 k l0 ((l0.length : Int) == 0)) = some r := by rw [if_pos rfl] at H; exact H
   clear H
   have H := H1
   clear H1
   have H' := Aside0.mk H
   clear H
   go_wp2_with (first | ((with_reducible refine gate_callee (f := 59) rfl ?_); refine goesM_ (some 10) rfl rfl Try.func59 (by kernel_rfl) rfl #[.slice A0 l0.length c0] rfl ?_; (with_reducible refine (impl_MatrixOk.calls k _ _ l0 true _ ?side1 ?side2 A3.out).mono ?_); (case side1 => exact Cz ((Kd.C_below HR0.out HB.out))); (case side2 => exact HC0.out); rintro e w' ⟨rfl, ⟨nd, rfl⟩⟩; refine ⟨_, rfl, ?_⟩))
   go_meet
   case rel => exact ⟨_, (((l0.length : Int) == 0)), eqA, H', ⟨by first | omega | exact Nat.le_refl _⟩, ⟨by exact Lz HB⟩⟩
  replace c4 := Bool.eq_false_iff.mpr c4
  subst c4
  have H1 : (impl_InvariantFactors.j0 k l0 true) = some r := by rw [if_neg (show ¬ (false = true) by decide)] at H; exact H
  clear H
  have H := H1
  clear H1
  have H' := Aside0.mk H
  clear H
  go_wp2_with (first | ((with_reducible refine gate_callee (f := 59) rfl ?_); refine goesM_ (some 10) rfl rfl Try.func59 (by kernel_rfl) rfl #[.slice A0 l0.length c0] rfl ?_; (with_reducible refine (impl_MatrixOk.calls k _ _ l0 false _ ?side1 ?side2 A3.out).mono ?_); (case side1 => exact Cz ((Kd.C_below HR0.out HB.out))); (case side2 => exact HC0.out); rintro e w' ⟨rfl, ⟨nd, rfl⟩⟩; refine ⟨_, rfl, ?_⟩))
  go_meet
  case rel => exact ⟨_, (true), eqA, H', ⟨by first | omega | exact Nat.le_refl _⟩, ⟨by exact Lz HB⟩⟩
 case rest =>
  clear HC2
  try clear c4
  obtain ⟨kq, x16_1, rfl, HA, HJ1, HB⟩ := hcut
  cases kq with
  | zero => exact absurd HA.out (by simp [impl_InvariantFactors.j0])
  | succ kj1 =>
   have H := HA.out
   clear HA
   simp only [impl_InvariantFactors.j0] at H
   by_cases c5 : x16_1 = true
   ·subst c5
    have H1 : (some ([] : List Int)) = some r := by rw [if_pos rfl] at H; exact H
    clear H
    have H := H1
    clear H1
    obtain rfl := Option.some.inj H
    go_wp2
    go_ret
    exact ⟨_, by first | rfl | (simp [errW_none, errW_some] <;> rfl) | (simp [*, errW_none, errW_some] <;> rfl), by first | exact Kd.R_nil _ _ _ _ _ | exact Kd.N_nil _ _ _ _ _ | exact Kd.V_nil _ _ _ _ _ | exact Kd.Q_nil _ _ _ _ _ | exact Kd.S_nil _ _ _ _ _, by exact Lz HB⟩
   replace c5 := Bool.eq_false_iff.mpr c5
   subst c5
   have H1 : (if 0 ≤ (wrap64 ((l0.length : Int) + 1)) then (if (wrap64 ((l0.length : Int) + 1) : Int).toNat ≤ 35184372088832 then (impl_InvariantFactors.l0 kj1 l0 (List.replicate (wrap64 ((l0.length : Int) + 1) : Int).toNat 0) 0) else (none)) else (none)) = some r := by rw [if_neg (show ¬ (false = true) by decide)] at H; exact H
   clear H
   have H := H1
   clear H1
   obtain ⟨ji6, hji6⟩ : ∃ j_ : Int, (wrap64 ((l0.length : Int) + 1)) = j_ := ⟨_, rfl⟩
   replace H : (if 0 ≤ (ji6) then (if (ji6 : Int).toNat ≤ 35184372088832 then (impl_InvariantFactors.l0 kj1 l0 (List.replicate (ji6 : Int).toNat 0) 0) else (none)) else (none)) = some r := by first | (rw [hji6] at H; exact H) | (simp only [hji6] at H ⊢; exact H)
   have hji6w : (IntKind.i64.wrap ((l0.length : Int) + 1)) = ji6 := (i64_w _).trans hji6
   by_cases c7 : 0 ≤ (ji6)
   ·rw [if_pos c7] at H
    have c7b0 := eq_true c7
    have c7b1 : decide (0 ≤ (ji6)) = true := decide_eq_true c7
    clear c7
    by_cases c8 : (ji6 : Int).toNat ≤ 35184372088832
    ·rw [if_pos c8] at H
     have c8b0 := eq_true c8
     have c8b1 : decide ((ji6 : Int).toNat ≤ 35184372088832) = true := decide_eq_true c8
     clear c8
     obtain ⟨y539, hy539⟩ : ∃ y_ : List Int, y_ = (List.replicate (ji6 : Int).toNat 0) := ⟨_, rfl⟩
     replace H : (impl_InvariantFactors.l0 kj1 l0 y539 0) = some r := by first | (rw [hy539]; with_reducible exact H) | (have H2_ := (Option.bind_some _ _).symm.trans H; rw [hy539]; with_reducible exact H2_) | (have H2_ := (Option.bind_some _ _).symm.trans H; with_reducible exact H2_) | with_reducible exact H | (rw [hy539]; exact H) | exact H
     have Ny539 := Aside0.mk hy539
     clear hy539
     have H' := Aside0.mk H
     clear H
     go_wp2_with (first | ((with_reducible refine gate_dst (N := 20) rfl ?_); (try (refine gate_guard (by rfl) ?_; dsimp only)); refine Kd.R_make (Kd.int .i64) _ 3 rfl (N := 20) rfl 37 _ _ rfl ji6 rfl rfl Try.underlying37 (.int .i64 0) 8 info3 rfl (by decide) (by omega) 0 (ok := fun _ => True) (okp := fun _ => True) rfl (fun _ hk => hk) trivial (ofA) (Nat.le_trans (Nat.mul_le_mul_right _ (ofA : ji6.toNat ≤ 35184372088832)) (by omega)) (Below.refl _ _) (Nat.le_refl _) ?_; intro v540 w9 ho10 hb hg_ hnew_; clear hg_ hnew_; (first | rw [← Ny539.out] at ho10 | (simp only [Int.reduceToNat] at ho10; rw [← Ny539.out] at ho10)); have HO541 := Aside0.mk (Kd.R_lower ho10 (below_size (Lz HB))); replace HB := Aside0.mk (below_step (Lz HB) hb); clear hb ho10))
     go_loopg [4] kj1 (fun kq v4 w' => ∃ (x3_2 : List Int) (x4_2 : Int), v4 = .int .i64 x4_2 ∧ Aside0 (impl_InvariantFactors.l0 kq l0 x3_2 x4_2 = some r) ∧ Aside0 (kq ≤ kj1) ∧ Aside0 (Kd.R (Kd.int .i64) 3 w' w.heap.size (fun _ => True) v540 x3_2) ∧ Aside0 (Below w.heap.size w w'))
     case atStart => exact ⟨(y539), (0), eqA, H', ⟨Nat.le_refl _⟩, ⟨by exact Rz HO541⟩, ⟨by exact Lz HB⟩⟩
     case round =>
      clear H'
      try clear c4
      try clear c5
      try clear c7
      try clear c7b0
      try clear c7b1
      try clear c8
      try clear c8b0
      try clear c8b1
      obtain ⟨x3_2, x4_2, rfl, HA, HK2, HO_3, HB⟩ := hrel
      cases gk with
      | zero => exact absurd HA.out (by simp [impl_InvariantFactors.l0])
      | succ k2 =>
       have H := HA.out
       clear HA
       simp only [impl_InvariantFactors.l0] at H
       obtain ⟨ji11, hji11⟩ : ∃ j_ : Int, (shl .i64 1 (l0.length : Int)) = j_ := ⟨_, rfl⟩
       replace H : (if x4_2 < (ji11) then ((impl_bitsOf.f k2 x4_2).bind fun t542 => (impl_InvariantFactors.l1 k2 l0 x3_2 x4_2 t542 0)) else (impl_InvariantFactors.l2 k2 x3_2 ([] : List Int) (l0.length : Int) 0)) = some r := by first | (rw [hji11] at H; exact H) | (simp only [hji11] at H ⊢; exact H)
       have hji11_ : (IntKind.i64.wrap (1 * 2 ^ min (l0.length : Int).toNat 64)) = ji11 := hji11
       have hji11z : (l0.length : Int) ≤ 64 → (IntKind.i64.wrap (1 * 2 ^ (l0.length : Int).toNat)) = ji11 := shl_small hji11
       have hji11p : (IntKind.i64.wrap (1 * 2 ^ min l0.length 64)) = ji11 := hji11_
       have hji11q : (l0.length : Int) ≤ 64 → (IntKind.i64.wrap (1 * 2 ^ l0.length)) = ji11 := hji11z
       have hji11r : (IntKind.i64.wrap (2 ^ min l0.length 64)) = ji11 := by have h_ := hji11p; rw [Int.one_mul] at h_; exact h_
       have hji11s : (l0.length : Int) ≤ 64 → (IntKind.i64.wrap (2 ^ l0.length)) = ji11 := fun hle_ => by have h_ := hji11q hle_; rw [Int.one_mul] at h_; exact h_
       have hji11u : (IntKind.i64.wrap (2 ^ min (l0.length : Int).toNat 64)) = ji11 := by have h_ := hji11_; rw [Int.one_mul] at h_; exact h_
       have hji11v : (l0.length : Int) ≤ 64 → (IntKind.i64.wrap (2 ^ (l0.length : Int).toNat)) = ji11 := fun hle_ => by have h_ := hji11z hle_; rw [Int.one_mul] at h_; exact h_
       have hji11y : (wrap64 (1 * 2 ^ min (l0.length : Int).toNat 64)) = ji11 := (i64_w _).symm.trans hji11_
       have hji11x : (l0.length : Int) ≤ 64 → (wrap64 (1 * 2 ^ (l0.length : Int).toNat)) = ji11 := fun h_ => (i64_w _).symm.trans (hji11z h_)
       by_cases c12 : x4_2 < (ji11)
       ·rw [if_pos c12] at H
        have c12b0 : decide (x4_2 < (ji11)) = true := decide_eq_true c12
        clear c12
        replace H := Option.bind_eq_some_iff.mp H
        obtain ⟨t542, A130, H⟩ := H
        replace H : (impl_InvariantFactors.l1 k2 l0 x3_2 x4_2 t542 0) = some r := H
        have A13 := Aside0.mk A130
        clear A130
        have H' := Aside0.mk H
        clear H
        go_wp2_with (first | ((with_reducible refine gate_callee (f := 60) rfl ?_); refine goesM_ (some 29) rfl rfl Try.func60 (by kernel_rfl) rfl #[.int .i64 x4_2] rfl ?_; (with_reducible refine (impl_bitsOf.calls k2 x4_2 t542 _ A13.out).mono ?_); rintro e w14 ⟨v543, rfl, ho0, hb⟩; refine ⟨_, rfl, ?_⟩; have HO544 := Aside0.mk (Kd.R_lower (Kd.R_new' ho0 (Kd.R_lt (Rz HO_3))) (below_size (Lz HB))); replace HO_3 := Aside0.mk (Kd.R_elder' (Rz HO_3) (Kd.R_base ho0) hb); replace HB := Aside0.mk (below_step (Lz HB) hb); (try clear hb); (try clear ho0)))
        go_loopg [6] k2 (fun kq v6 w' => ∃ (x3_3 : List Int) (x6_3 : Int), v6 = .int .i64 x6_3 ∧ Aside0 (impl_InvariantFactors.l1 kq l0 x3_3 x4_2 t542 x6_3 = some r) ∧ Aside0 (kq ≤ k2) ∧ Aside0 (Kd.R (Kd.int .i64) 3 w' w.heap.size (fun k_ => some k_ ≠ (v543 : Value).ownBlock) v540 x3_3) ∧ Aside0 (Kd.R (Kd.int .i64) 3 w' w.heap.size (fun k_ => some k_ ≠ (v540 : Value).ownBlock) v543 t542) ∧ Aside0 (Below w.heap.size w w'))
        case atStart => exact ⟨(x3_2), (0), eqA, H', ⟨Nat.le_refl _⟩, ⟨by (with_reducible repeat (first | apply Kd.R_alloc | apply Kd.R_drewN | apply Kd.R_drew)); exact Kd.R_mono HO_3.out (fun _ hk => hk.2)⟩, ⟨by (with_reducible repeat (first | apply Kd.R_alloc | apply Kd.R_drewN | apply Kd.R_drew)); exact Kd.R_mono HO544.out (fun _ hk => hk.2)⟩, ⟨by exact Lz HB⟩⟩
        case round =>
         clear H'
         try clear c4
         try clear c5
         try clear c7
         try clear c7b0
         try clear c7b1
         try clear c8
         try clear c8b0
         try clear c8b1
         try clear c12
         try clear c12b0
         obtain ⟨x3_3, x6_3, rfl, HA, HK3, HO_3, HO_5, HB⟩ := hrel
         cases gk with
         | zero => exact absurd HA.out (by simp [impl_InvariantFactors.l1])
         | succ k3 =>
          have H := HA.out
          clear HA
          simp only [impl_InvariantFactors.l1] at H
          (try clear hji11z; try clear hji11q; try clear hji11s; try clear hji11v; try clear hji11x; try clear hji11p; try clear hji11r; try clear hji11u; try clear hji11y; try clear hji11_; try clear hji11)
          obtain ⟨ji15, hji15⟩ : ∃ j_ : Int, (shl .i64 1 (l0.length : Int)) = j_ := ⟨_, rfl⟩
          replace H : (if x6_3 < (ji15) then ((impl_bitsOf.f k3 x6_3).bind fun t545 => (if (t545.length : Int) = (t542.length : Int) then (if 0 ≤ (t542.length : Int) then (if (t542.length : Int) < (x3_3.length : Int) then ((impl_determinant.f k3 l0 t542 x6_3).bind fun t549 => ((impl_divisor.f k3 (rd x3_3 (t542.length : Int)) t549).bind fun t550 => (impl_InvariantFactors.l1 k3 l0 (x3_3.set ((t542.length : Int) : Int).toNat t550) x4_2 t542 (wrap64 (x6_3 + 1))))) else (none)) else (none)) else (impl_InvariantFactors.l1 k3 l0 x3_3 x4_2 t542 (wrap64 (x6_3 + 1))))) else (impl_InvariantFactors.l0 k3 l0 x3_3 (wrap64 (x4_2 + 1)))) = some r := by first | (rw [hji15] at H; exact H) | (simp only [hji15] at H ⊢; exact H)
          have hji15_ : (IntKind.i64.wrap (1 * 2 ^ min (l0.length : Int).toNat 64)) = ji15 := hji15
          have hji15z : (l0.length : Int) ≤ 64 → (IntKind.i64.wrap (1 * 2 ^ (l0.length : Int).toNat)) = ji15 := shl_small hji15
          have hji15p : (IntKind.i64.wrap (1 * 2 ^ min l0.length 64)) = ji15 := hji15_
          have hji15q : (l0.length : Int) ≤ 64 → (IntKind.i64.wrap (1 * 2 ^ l0.length)) = ji15 := hji15z
          have hji15r : (IntKind.i64.wrap (2 ^ min l0.length 64)) = ji15 := by have h_ := hji15p; rw [Int.one_mul] at h_; exact h_
          have hji15s : (l0.length : Int) ≤ 64 → (IntKind.i64.wrap (2 ^ l0.length)) = ji15 := fun hle_ => by have h_ := hji15q hle_; rw [Int.one_mul] at h_; exact h_
          have hji15u : (IntKind.i64.wrap (2 ^ min (l0.length : Int).toNat 64)) = ji15 := by have h_ := hji15_; rw [Int.one_mul] at h_; exact h_
          have hji15v : (l0.length : Int) ≤ 64 → (IntKind.i64.wrap (2 ^ (l0.length : Int).toNat)) = ji15 := fun hle_ => by have h_ := hji15z hle_; rw [Int.one_mul] at h_; exact h_
          have hji15y : (wrap64 (1 * 2 ^ min (l0.length : Int).toNat 64)) = ji15 := (i64_w _).symm.trans hji15_
          have hji15x : (l0.length : Int) ≤ 64 → (wrap64 (1 * 2 ^ (l0.length : Int).toNat)) = ji15 := fun h_ => (i64_w _).symm.trans (hji15z h_)
          by_cases c16 : x6_3 < (ji15)
          ·rw [if_pos c16] at H
           have c16b0 : decide (x6_3 < (ji15)) = true := decide_eq_true c16
           clear c16
           replace H := Option.bind_eq_some_iff.mp H
           obtain ⟨t545, A170, H⟩ := H
           replace H : (if (t545.length : Int) = (t542.length : Int) then (if 0 ≤ (t542.length : Int) then (if (t542.length : Int) < (x3_3.length : Int) then ((impl_determinant.f k3 l0 t542 x6_3).bind fun t549 => ((impl_divisor.f k3 (rd x3_3 (t542.length : Int)) t549).bind fun t550 => (impl_InvariantFactors.l1 k3 l0 (x3_3.set ((t542.length : Int) : Int).toNat t550) x4_2 t542 (wrap64 (x6_3 + 1))))) else (none)) else (none)) else (impl_InvariantFactors.l1 k3 l0 x3_3 x4_2 t542 (wrap64 (x6_3 + 1)))) = some r := H
           have A17 := Aside0.mk A170
           clear A170
           by_cases c18 : (t545.length : Int) = (t542.length : Int)
           ·rw [if_pos c18] at H
            have c18b0 : ((t545.length : Int) == (t542.length : Int)) = true := beq_iff_eq.mpr c18
            have c18b1 : ((t545.length : Int) != (t542.length : Int)) = false := bne_eq_false_iff_eq.mpr c18
            have c18b2 : (t545.length == t542.length) = true := by first | simpa using c18 | (simp at c18 ⊢; omega)
            clear c18
            by_cases c19 : 0 ≤ (t542.length : Int)
            ·rw [if_pos c19] at H
             have c19b0 : decide (0 ≤ (t542.length : Int)) = true := decide_eq_true c19
             have c19b1 : decide (0 ≤ t542.length) = true := decide_eq_true (by omega)
             clear c19
             by_cases c20 : (t542.length : Int) < (x3_3.length : Int)
             ·rw [if_pos c20] at H
              have c20b0 : decide ((t542.length : Int) < (x3_3.length : Int)) = true := decide_eq_true c20
              have c20b1 : decide (t542.length < x3_3.length) = true := decide_eq_true (Int.ofNat_lt.mp c20)
              clear c20
              replace H := Option.bind_eq_some_iff.mp H
              obtain ⟨t549, A210, H⟩ := H
              replace H : ((impl_divisor.f k3 (rd x3_3 (t542.length : Int)) t549).bind fun t550 => (impl_InvariantFactors.l1 k3 l0 (x3_3.set ((t542.length : Int) : Int).toNat t550) x4_2 t542 (wrap64 (x6_3 + 1)))) = some r := H
              have A21 := Aside0.mk A210
              clear A210
              replace H := Option.bind_eq_some_iff.mp H
              obtain ⟨t550, A220, H⟩ := H
              replace H : (impl_InvariantFactors.l1 k3 l0 (x3_3.set ((t542.length : Int) : Int).toNat t550) x4_2 t542 (wrap64 (x6_3 + 1))) = some r := H
              have A22 := Aside0.mk A220
              clear A220
              obtain ⟨y551, hy551⟩ : ∃ y_ : List Int, y_ = (x3_3.set ((t542.length : Int) : Int).toNat t550) := ⟨_, rfl⟩
              replace H : (impl_InvariantFactors.l1 k3 l0 y551 x4_2 t542 (wrap64 (x6_3 + 1))) = some r := by first | (rw [hy551]; with_reducible exact H) | (have H2_ := (Option.bind_some _ _).symm.trans H; rw [hy551]; with_reducible exact H2_) | (have H2_ := (Option.bind_some _ _).symm.trans H; with_reducible exact H2_) | with_reducible exact H | (rw [hy551]; exact H) | exact H
              have Ny551 := Aside0.mk hy551
              clear hy551
              have H' := Aside0.mk H
              clear H
              try go_wp2_with (first | ((with_reducible refine gate_callee (f := 60) rfl ?_); refine goesM_ (some 38) rfl rfl Try.func60 (by kernel_rfl) rfl #[.int .i64 x6_3] rfl ?_; (with_reducible refine (impl_bitsOf.calls k3 x6_3 t545 _ A17.out).mono ?_); rintro e w24 ⟨v546, rfl, ho0, hb⟩; refine ⟨_, rfl, ?_⟩; have HO547 := Aside0.mk (Kd.R_lower (Kd.R_new' (Kd.R_new' ho0 (Kd.R_lt (Rz HO_3))) (Kd.R_lt (Rz HO_5))) (below_size (Lz HB))); replace HO_3 := Aside0.mk (Kd.R_elder' (Rz HO_3) (Kd.R_base ho0) hb); replace HO_5 := Aside0.mk (Kd.R_elder' (Rz HO_5) (Kd.R_base ho0) hb); replace HB := Aside0.mk (below_step (Lz HB) hb); (try clear hb); (try clear ho0); obtain ⟨Ao25, co25, eo25⟩ := Kd.R_slice HO547.out; subst eo25; obtain ⟨Ao26, co26, eo26⟩ := Kd.R_slice HO_5.out; subst eo26))
              replace HO_3 := Aside0.mk (Kd.R_drew HO_3.out)
              replace HO_5 := Aside0.mk (Kd.R_drew HO_5.out)
              replace HO547 := Aside0.mk (Kd.R_drew HO547.out)
              replace HB := Aside0.mk (below_drew1 HB.out)
              obtain ⟨Ao28, co28, eo28⟩ := Kd.R_slice HO_3.out
              (first | subst eo28 | (injection eo28 with f1_ f2_ f3_; have f4_ := f1_.symm; have f5_ := f3_.symm; clear f1_ f2_ f3_; subst f4_; subst f5_))
              have p548 : 0 ≤ ((t542.length : Int) : Int) := ofA
              have q548 : (t542.length : Int) < (x3_3.length : Int) := ofA
              obtain ⟨ad548, e548, hx548_0⟩ := Kd.at_int (Kd.R_reads' HO_3.out).2.2 (t542.length : Int) p548 q548
              cases e548
              (try simp only [Go.IntWalk.toNatUp] at hx548_0)
              replace p548 := eq_true p548
              replace q548 := eq_true q548
              refine start_ (n := 15) (S := fun w' => w'.cell? (ad548.add ((t542.length : Int)).toNat) = some (.int .i64 (rd x3_3 (t542.length : Int)))) (ds := [14]) #[false, false, false, false, false, false, false, false, false, false, false, false, false, false, false] (by kernel_rfl) rfl rfl (hx548_0) (fun hHeld => ?_); refine with_tabW impl_InvariantFactors.tab12 impl_InvariantFactors.bits12 (fun HT_ HW_ => ?_)
              generalize w24.drew = w27 at HO_3 HO_5 HO547 HB hx548_0 hHeld ⊢
              refine pureT_ 0 43 HT_ ?_
              refine pureT_ 1 44 HT_ ?_
              refine pureT_ 2 45 HT_ ?_
              refine pureT_ 3 46 HT_ ?_
              refine pureT_ 4 47 HT_ ?_
              refine pureT_ 5 48 HT_ ?_
              refine pureT_ 6 49 HT_ ?_
              refine pureT_ 8 51 HT_ ?_
              refine pureT_ 9 52 HT_ ?_
              refine pureT_ 10 53 HT_ ?_
              refine take_ (i := 7) (N := some 50) (v := ?_) (a' := ?_) #[true, true, true, true, true, true, true, true, true, true, true, false, false, false, false] rfl rfl (take_ofW HT_.out HW_.out (by kernel_rfl)) (fun _ _ _ h => h) (Or.inl ⟨by rfl, ?_⟩) hHeld ?_ ?_
              rotate_left
              ·intro w' s0
               (try simp only [Int.toNat_natCast] at s0)
               go_simp
               with_reducible rfl
              rotate_left
              ·simp only [Act.put, List.setIfInBounds_toArray, List.set_cons_zero, List.set_cons_succ, i64_w, i32_w]
               rfl
              refine one_ (i := 11) (N := some 54) #[true, true, true, true, true, true, true, true, true, true, true, true, false, false, false] rfl rfl (one_of HT_.out (by kernel_rfl)) (by decide) (fun K hK => ?_)
              refine goes_ Try.func62 (by kernel_rfl) rfl #[.slice A0 l0.length c0, .slice Ao26 t542.length co26, .int .i64 x6_3] (by rfl) rfl rfl (by (try simp only [List.map_toArray, List.map_cons, List.map_nil]); first | done | rfl | (simp only [List.length_drop, List.length_take]; rfl)) ?_
              with_reducible refine (impl_determinant.calls k3 _ _ l0 _ _ t542 x6_3 t549 _ ?side1 ?side2 ?side3 ?side4 A21.out).mono ?_
              (case side1 => exact Cz ((Kd.C_below HR0.out HB.out)))
              (case side2 => exact HC0.out)
              (case side3 => exact Cz ((Kd.R_reads' HO_5.out).2.2))
              (case side4 => exact (Kd.R_reads' HO_5.out).2.1)
              rintro e w29 ⟨rfl, hb⟩
              have HS0_ := (hb.cell (World.block_lt_of_cell? _ _ (hHeld))).trans (hHeld)
              refine ⟨_, rfl, ?_⟩
              replace HO_3 := Aside0.mk (Kd.R_below (Rz HO_3) hb)
              replace HO_5 := Aside0.mk (Kd.R_below (Rz HO_5) hb)
              replace HO547 := Aside0.mk (Kd.R_below (Rz HO547) hb)
              replace HB := Aside0.mk (below_step (Lz HB) hb)
              (try clear hb)
              (try clear hb2)
              (try clear hk)
              (try clear hi)
              refine hK.out _ _ (HS0_) (fun hHeld => ?_)
              clear hK K
              refine norm_ (a' := ?_) ?_ ?_
              rotate_left
              ·show Act.put _ (some 54) _ = _
               simp only [Act.put, List.setIfInBounds_toArray, List.set_cons_zero, List.set_cons_succ, i64_w, i32_w]
               rfl
              refine one_ (i := 12) (N := some 55) #[true, true, true, true, true, true, true, true, true, true, true, true, true, false, false] rfl rfl (one_of HT_.out (by kernel_rfl)) (by decide) (fun K hK => ?_)
              refine goes_ Try.func61 (by kernel_rfl) rfl #[.int .i64 (rd x3_3 (t542.length : Int)), .int .i64 t549] (by rfl) rfl rfl (by (try simp only [List.map_toArray, List.map_cons, List.map_nil]); first | done | rfl | (simp only [List.length_drop, List.length_take]; rfl)) ?_
              with_reducible refine (impl_divisor.calls k3 (rd x3_3 (t542.length : Int)) t549 t550 _ A22.out).mono ?_
              rintro e w30 ⟨rfl, hb⟩
              have HS0_ := (hb.cell (World.block_lt_of_cell? _ _ (hHeld))).trans (hHeld)
              refine ⟨_, rfl, ?_⟩
              replace HO_3 := Aside0.mk (Kd.R_below (Rz HO_3) hb)
              replace HO_5 := Aside0.mk (Kd.R_below (Rz HO_5) hb)
              replace HO547 := Aside0.mk (Kd.R_below (Rz HO547) hb)
              replace HB := Aside0.mk (below_step (Lz HB) hb)
              (try clear hb)
              (try clear hb2)
              (try clear hk)
              (try clear hi)
              have p23 : 0 ≤ ((t542.length : Int) : Int) := ofA
              have q23 : ((t542.length : Int) : Int) < ((x3_3.length : Int) : Int) := ofA
              obtain ⟨go23, co23, eo23, gb23, gl23, cl23, HG23⟩ := Kd.R_form HO_3.out (by omega)
              (first | cases eo23 | (injection eo23 with ea_ en_ ec_; (first | subst ea_ | (injection ea_ with ea_; subst ea_)); subst ec_; clear en_))
              have GB23 := Aside0.mk gb23
              have GG23 := Aside0.mk HG23
              clear gb23 gl23 HG23
              (first | simp only [add_plain] at hx548_0 | skip)
              obtain ⟨hx23_0, hf23_0⟩ := Kd.R_celln 0 HO_3.out ((t542.length : Int) : Int) p23 q23
              (try simp only [Int.toNat_natCast] at hx23_0 hf23_0)
              replace p23 := eq_true p23
              replace q23 := eq_true q23
              have HP31 := Kd.R_putn HO_3.out ((t542.length : Int) : Int) t550
              rw [← Ny551.out] at HP31
              (try simp only [Int.toNat_natCast] at HP31)
              have HQ31 := Aside0.mk HP31
              clear HP31
              refine hK.out _ _ (HS0_) (fun hHeld => ?_)
              clear hK K
              refine norm_ (a' := ?_) ?_ ?_
              rotate_left
              ·show Act.put _ (some 55) _ = _
               simp only [Act.put, List.setIfInBounds_toArray, List.set_cons_zero, List.set_cons_succ, i64_w, i32_w]
               rfl
              refine pureT_ 13 56 HT_ ?_
              refine last_ (i := 14) (N := none) #[true, true, true, true, true, true, true, true, true, true, true, true, true, true, true] rfl rfl (one_of HT_.out (by kernel_rfl)) (by decide) (fun K hK => ?_)
              refine skip_ (w1 := ?_) (by rfl) rfl ?_ ?_
              rotate_left
              ·go_simp
               rfl
              refine hK.out _ _ ?_
              clear hK K
              refine done_ (done_of HT_.out (by kernel_rfl)) ?_
              try go_wp2
              go_roundg k3
              case measure => have := HJ1.out; have := HK2.out; have := HK3.out; omega
              case rel => exact ⟨(y551), (wrap64 (x6_3 + 1)), eqA, H', ⟨by have := HJ1.out; have := HK2.out; have := HK3.out; omega⟩, ⟨by (with_reducible repeat (first | apply Kd.R_alloc | apply Kd.R_drewN | apply Kd.R_drew)); exact Kd.R_mono HQ31.out (fun _ hk => hk.1)⟩, ⟨by (with_reducible repeat (first | apply Kd.R_alloc | apply Kd.R_drewN | apply Kd.R_drew)); exact Kd.R_mono (Kd.R_far (p := ⟨go23, ((t542.length : Int) : Int).toNat, none⟩) (Kd.R_mono HO_5.out (fun k_ hk => (⟨hk, fun e_ => hk.1 (by rw [e_]; rfl)⟩ : _ ∧ k_ ≠ go23))) (fun _ hk => hk.2) (.int .i64 t550)) (fun _ hk => hk.1.1)⟩, ⟨by exact Lz1 HB GB23⟩⟩
             rw [if_neg c20] at H
             exact absurd H (by simp)
            rw [if_neg c19] at H
            exact absurd H (by simp)
           rw [if_neg c18] at H
           have c18b0 : ((t545.length : Int) == (t542.length : Int)) = false := beq_eq_false_iff_ne.mpr c18
           have c18b1 : ((t545.length : Int) != (t542.length : Int)) = true := bne_iff_ne.mpr c18
           have c18b2 : (t545.length == t542.length) = false := by first | simpa using c18 | (simp at c18 ⊢; omega)
           have H' := Aside0.mk H
           clear H
           go_wp2_with (first | ((with_reducible refine gate_callee (f := 60) rfl ?_); refine goesM_ (some 38) rfl rfl Try.func60 (by kernel_rfl) rfl #[.int .i64 x6_3] rfl ?_; (with_reducible refine (impl_bitsOf.calls k3 x6_3 t545 _ A17.out).mono ?_); rintro e w32 ⟨v546, rfl, ho0, hb⟩; refine ⟨_, rfl, ?_⟩; have HO547 := Aside0.mk (Kd.R_lower (Kd.R_new' (Kd.R_new' ho0 (Kd.R_lt (Rz HO_3))) (Kd.R_lt (Rz HO_5))) (below_size (Lz HB))); replace HO_3 := Aside0.mk (Kd.R_elder' (Rz HO_3) (Kd.R_base ho0) hb); replace HO_5 := Aside0.mk (Kd.R_elder' (Rz HO_5) (Kd.R_base ho0) hb); replace HB := Aside0.mk (below_step (Lz HB) hb); (try clear hb); (try clear ho0); obtain ⟨Ao33, co33, eo33⟩ := Kd.R_slice HO547.out; subst eo33; obtain ⟨Ao34, co34, eo34⟩ := Kd.R_slice HO_5.out; subst eo34))
           go_roundg k3
           case measure => have := HJ1.out; have := HK2.out; have := HK3.out; omega
           case rel => exact ⟨(x3_3), (wrap64 (x6_3 + 1)), eqA, H', ⟨by have := HJ1.out; have := HK2.out; have := HK3.out; omega⟩, ⟨by (with_reducible repeat (first | apply Kd.R_alloc | apply Kd.R_drewN | apply Kd.R_drew)); exact Kd.R_mono HO_3.out (fun _ hk => hk.1)⟩, ⟨by (with_reducible repeat (first | apply Kd.R_alloc | apply Kd.R_drewN | apply Kd.R_drew)); exact Kd.R_mono HO_5.out (fun _ hk => hk.1)⟩, ⟨by exact Lz HB⟩⟩
          rw [if_neg c16] at H
          have c16b0 : decide (x6_3 < (ji15)) = false := decide_eq_false c16
          clear c16
          have H' := Aside0.mk H
          clear H
          go_wp2
          go_roundg k3
          case measure => have := HJ1.out; have := HK2.out; have := HK3.out; omega
          case rel => exact ⟨(x3_3), (wrap64 (x4_2 + 1)), eqA, H', ⟨by have := HJ1.out; have := HK2.out; have := HK3.out; omega⟩, ⟨by (with_reducible repeat (first | apply Kd.R_alloc | apply Kd.R_drewN | apply Kd.R_drew)); exact Kd.R_mono HO_3.out (fun _ hk => trivial)⟩, ⟨by exact Lz HB⟩⟩
       rw [if_neg c12] at H
       have c12b0 : decide (x4_2 < (ji11)) = false := decide_eq_false c12
       clear c12
       have H' := Aside0.mk H
       clear H
       go_wp2
       go_loopg [7, 59] k2 (fun kq v7 v59 w' => ∃ (x7_3 : List Int) (x59_3 : Int), v59 = .int .i64 x59_3 ∧ Aside0 (impl_InvariantFactors.l2 kq x3_2 x7_3 (l0.length : Int) x59_3 = some r) ∧ Aside0 (kq ≤ k2) ∧ Aside0 (Kd.R (Kd.int .i64) 3 w' w.heap.size (fun k_ => some k_ ≠ (v7 : Value).ownBlock) v540 x3_2) ∧ Aside0 (Kd.R (Kd.int .i64) 3 w' w.heap.size (fun k_ => some k_ ≠ (v540 : Value).ownBlock) v7 x7_3) ∧ Aside0 (Below w.heap.size w w'))
       case atStart => exact ⟨(([] : List Int)), (0), eqA, H', ⟨Nat.le_refl _⟩, ⟨by (with_reducible repeat (first | apply Kd.R_alloc | apply Kd.R_drewN | apply Kd.R_drew)); exact Kd.R_mono HO_3.out (fun _ hk => (by simp [Value.ownBlock]))⟩, ⟨by first | exact Kd.R_nil _ _ _ _ _ | exact Kd.N_nil _ _ _ _ _ | exact Kd.V_nil _ _ _ _ _ | exact Kd.Q_nil _ _ _ _ _ | exact Kd.S_nil _ _ _ _ _⟩, ⟨by exact Lz HB⟩⟩
       case round =>
        clear H'
        try clear c4
        try clear c5
        try clear c7
        try clear c7b0
        try clear c7b1
        try clear c8
        try clear c8b0
        try clear c8b1
        try clear c12
        try clear c12b0
        try clear c16
        try clear c16b0
        try clear c18
        try clear c18b0
        try clear c18b1
        try clear c18b2
        try clear c19
        try clear c19b0
        try clear c19b1
        try clear c20
        try clear c20b0
        try clear c20b1
        try clear p23
        try clear q23
        try clear p23
        try clear p548
        try clear q23
        try clear q548
        obtain ⟨x7_3, x59_3, rfl, HA, HK3, HO_3, HO_7, HB⟩ := hrel
        cases gk with
        | zero => exact absurd HA.out (by simp [impl_InvariantFactors.l2])
        | succ k3 =>
         have H := HA.out
         clear HA
         simp only [impl_InvariantFactors.l2] at H
         by_cases c35 : x59_3 < (l0.length : Int)
         ·rw [if_pos c35] at H
          have c35b0 : decide (x59_3 < (l0.length : Int)) = true := decide_eq_true c35
          clear c35
          obtain ⟨ji36, hji36⟩ : ∃ j_ : Int, (wrap64 (x59_3 + 1)) = j_ := ⟨_, rfl⟩
          replace H : (if 0 ≤ (ji36) then (if (ji36) < (x3_2.length : Int) then (if (rd x3_2 (ji36)) = 0 then (if x7_3.length < 17592186044416 then (impl_InvariantFactors.l2 k3 x3_2 (x7_3 ++ [0]) (l0.length : Int) ji36) else (none)) else (if 0 ≤ x59_3 then (if x59_3 < (x3_2.length : Int) then (if (rd x3_2 x59_3) = 0 then (none) else (if x7_3.length < 17592186044416 then (impl_InvariantFactors.l2 k3 x3_2 (x7_3 ++ [wrap64 (Int.tdiv (rd x3_2 (ji36)) (rd x3_2 x59_3))]) (l0.length : Int) ji36) else (none))) else (none)) else (none))) else (none)) else (none)) = some r := by first | (rw [hji36] at H; exact H) | (simp only [hji36] at H ⊢; exact H)
          have hji36w : (IntKind.i64.wrap (x59_3 + 1)) = ji36 := (i64_w _).trans hji36
          by_cases c37 : 0 ≤ (ji36)
          ·rw [if_pos c37] at H
           have c37b0 : decide (0 ≤ (ji36)) = true := decide_eq_true c37
           clear c37
           by_cases c38 : (ji36) < (x3_2.length : Int)
           ·rw [if_pos c38] at H
            have c38b0 : decide ((ji36) < (x3_2.length : Int)) = true := decide_eq_true c38
            clear c38
            by_cases c39 : (rd x3_2 (ji36)) = 0
            ·rw [if_pos c39] at H
             have c39b0 : ((rd x3_2 (ji36)) == 0) = true := beq_iff_eq.mpr c39
             have c39b1 : ((rd x3_2 (ji36)) != 0) = false := bne_eq_false_iff_eq.mpr c39
             clear c39
             by_cases c40 : x7_3.length < 17592186044416
             ·rw [if_pos c40] at H
              have LMc40 := Aside0.mk c40
              clear c40
              obtain ⟨y553, hy553⟩ : ∃ y_ : List Int, y_ = (x7_3 ++ [0]) := ⟨_, rfl⟩
              replace H : (impl_InvariantFactors.l2 k3 x3_2 y553 (l0.length : Int) ji36) = some r := by first | (rw [hy553]; with_reducible exact H) | (have H2_ := (Option.bind_some _ _).symm.trans H; rw [hy553]; with_reducible exact H2_) | (have H2_ := (Option.bind_some _ _).symm.trans H; with_reducible exact H2_) | with_reducible exact H | (rw [hy553]; exact H) | exact H
              have Ny553 := Aside0.mk hy553
              clear hy553
              have H' := Aside0.mk H
              clear H
              obtain ⟨Ao41, co41, eo41⟩ := Kd.R_slice HO_3.out
              subst eo41
              have p552 : 0 ≤ ((ji36) : Int) := ofA
              have q552 : (ji36) < (x3_2.length : Int) := ofA
              obtain ⟨ad552, e552, hx552_0⟩ := Kd.at_int (Kd.R_reads' HO_3.out).2.2 (ji36) p552 q552
              cases e552
              replace p552 := eq_true p552
              replace q552 := eq_true q552
              go_wp2_with (first | ((with_reducible refine gate_builtin (b := .append) (xs := #[.tmp 68, .tmp 69]) rfl ?_); (try (refine gate_guard (by rfl) ?_; dsimp only)); at_builtin; refine Kd.R_append (Kd.int .i64) (w0 := w) w.heap.size rfl (.tmp 68) (.tmp 69) 37 3 (.int .i64 0) 8 rfl Try.underlying37 info3 rfl (by decide) (by omega) u7 x7_3 0 [.int .i64 0] (fun k_ => some k_ ≠ (.slice (some ad552) x3_2.length co41 : Value).ownBlock) (fun _ => False) rfl rfl ?aP (fun _ hk => hk.elim) ?aF ?aO ?aB ?aS ?aL ?_; (case aP => exact rfl); (case aB => exact (Lz HB)); (case aF => exact (fun k_ hk => Kd.fresh' (Kd.R_lt (Rz HO_3)) k_ hk)); (case aO => exact (Rz HO_7)); (case aS => exact (below_size (Lz HB))); (case aL => have := LMc40.out; omega); intro v554 w42 ho hb hg hat; rw [← Ny553.out] at ho; replace HO_3 := Aside0.mk (Kd.R_after (ok := (fun _ => True)) (by (with_reducible repeat (first | apply Kd.R_alloc | apply Kd.R_drewN | apply Kd.R_drew)); exact Kd.R_mono HO_3.out (fun _ hk => ⟨trivial, hk⟩)) hg hat); replace HB := Aside0.mk (hb); have HO555 := Aside0.mk (ho); clear HO_7; clear ho hb hg hat))
              go_roundg k3
              case measure => have := HJ1.out; have := HK2.out; have := HK3.out; omega
              case rel => exact ⟨(y553), (ji36), (by first | rfl | (simp; done) | (simp only [← hji36] <;> (first | rfl | simp)) | (simp [*]; done)), H', ⟨by have := HJ1.out; have := HK2.out; have := HK3.out; omega⟩, ⟨by (with_reducible repeat (first | apply Kd.R_alloc | apply Kd.R_drewN | apply Kd.R_drew)); exact Kd.R_mono HO_3.out (fun _ hk => hk.2)⟩, ⟨by exact Rz HO555⟩, ⟨by exact Lz HB⟩⟩
             rw [if_neg c40] at H
             exact absurd H (by simp)
            rw [if_neg c39] at H
            have c39b0 : ((rd x3_2 (ji36)) == 0) = false := beq_eq_false_iff_ne.mpr c39
            have c39b1 : ((rd x3_2 (ji36)) != 0) = true := bne_iff_ne.mpr c39
            by_cases c43 : 0 ≤ x59_3
            ·rw [if_pos c43] at H
             have c43b0 : decide (0 ≤ x59_3) = true := decide_eq_true c43
             clear c43
             by_cases c44 : x59_3 < (x3_2.length : Int)
             ·rw [if_pos c44] at H
              have c44b0 : decide (x59_3 < (x3_2.length : Int)) = true := decide_eq_true c44
              clear c44
              by_cases c45 : (rd x3_2 x59_3) = 0
              ·rw [if_pos c45] at H
               exact absurd H (by simp)
              rw [if_neg c45] at H
              have c45b0 : ((rd x3_2 x59_3) == 0) = false := beq_eq_false_iff_ne.mpr c45
              have c45b1 : ((rd x3_2 x59_3) != 0) = true := bne_iff_ne.mpr c45
              by_cases c46 : x7_3.length < 17592186044416
              ·rw [if_pos c46] at H
               have LMc46 := Aside0.mk c46
               clear c46
               obtain ⟨y558, hy558⟩ : ∃ y_ : List Int, y_ = (x7_3 ++ [wrap64 (Int.tdiv (rd x3_2 (ji36)) (rd x3_2 x59_3))]) := ⟨_, rfl⟩
               replace H : (impl_InvariantFactors.l2 k3 x3_2 y558 (l0.length : Int) ji36) = some r := by first | (rw [hy558]; with_reducible exact H) | (have H2_ := (Option.bind_some _ _).symm.trans H; rw [hy558]; with_reducible exact H2_) | (have H2_ := (Option.bind_some _ _).symm.trans H; with_reducible exact H2_) | with_reducible exact H | (rw [hy558]; exact H) | exact H
               have Ny558 := Aside0.mk hy558
               clear hy558
               have H' := Aside0.mk H
               clear H
               obtain ⟨Ao47, co47, eo47⟩ := Kd.R_slice HO_3.out
               subst eo47
               have p552 : 0 ≤ ((ji36) : Int) := ofA
               have q552 : (ji36) < (x3_2.length : Int) := ofA
               obtain ⟨ad552, e552, hx552_0⟩ := Kd.at_int (Kd.R_reads' HO_3.out).2.2 (ji36) p552 q552
               cases e552
               replace p552 := eq_true p552
               replace q552 := eq_true q552
               try go_wp2
               replace HO_3 := Aside0.mk (Kd.R_drew HO_3.out)
               replace HO_7 := Aside0.mk (Kd.R_drew HO_7.out)
               replace HB := Aside0.mk (below_drew1 HB.out)
               have p556 : 0 ≤ ((ji36) : Int) := ofA
               have q556 : (ji36) < (x3_2.length : Int) := ofA
               obtain ⟨ad556, e556, hx556_0⟩ := Kd.at_int (Kd.R_reads' HO_3.out).2.2 (ji36) p556 q556
               obtain rfl : ad552 = ad556 := (by injection e556)
               replace p556 := eq_true p556
               replace q556 := eq_true q556
               have p557 : 0 ≤ (x59_3 : Int) := ofA
               have q557 : x59_3 < (x3_2.length : Int) := ofA
               obtain ⟨ad557, e557, hx557_0⟩ := Kd.at_int (Kd.R_reads' HO_3.out).2.2 x59_3 p557 q557
               obtain rfl : ad552 = ad557 := (by injection e557)
               replace p557 := eq_true p557
               replace q557 := eq_true q557
               refine start_ (n := 14) (S := fun w' => w'.cell? (ad552.add ((ji36)).toNat) = some (.int .i64 (rd x3_2 (ji36))) ∧ w'.cell? (ad552.add (x59_3).toNat) = some (.int .i64 (rd x3_2 x59_3))) (ds := [11, 12]) #[false, false, false, false, false, false, false, false, false, false, false, false, false, false] (by kernel_rfl) rfl rfl ⟨hx556_0, hx557_0⟩ (fun hHeld => ?_); refine with_tabW impl_InvariantFactors.tab19 impl_InvariantFactors.bits19 (fun HT_ HW_ => ?_)
               generalize wr.drew = w48 at HO_3 HO_7 HB hx556_0 hx557_0 hHeld ⊢
               refine pureT_ 0 71 HT_ ?_
               refine pureT_ 1 72 HT_ ?_
               refine pureT_ 2 73 HT_ ?_
               refine pureT_ 3 74 HT_ ?_
               refine pureT_ 4 75 HT_ ?_
               refine pureT_ 6 77 HT_ ?_
               refine pureT_ 7 78 HT_ ?_
               refine pureT_ 8 79 HT_ ?_
               refine takeT_ 5 76 HT_ HW_ hHeld rfl (by rintro w' ⟨s0, s1⟩; go_simp; with_reducible rfl) ?_
               refine takeT_ 9 80 HT_ HW_ hHeld rfl (by rintro w' ⟨s0, s1⟩; go_simp; with_reducible rfl) ?_
               refine pureT_ 10 81 HT_ ?_
               refine last_ (i := 11) (N := some 82) #[true, true, true, true, true, true, true, true, true, true, true, true, false, false] rfl rfl (one_of HT_.out (by kernel_rfl)) (by decide) (fun K hK => ?_)
               refine value_ (w1 := ?_) (v := ?_) (by rfl) rfl ?_ ?_
               rotate_left 2
               ·go_simp
                constructor
                ·rfl
                ·rfl
               refine hK.out _ _ ?_
               clear hK K
               refine norm_ (a' := ?_) ?_ ?_
               rotate_left
               ·show Act.put _ (some 82) _ = _
                simp only [Act.put, List.setIfInBounds_toArray, List.set_cons_zero, List.set_cons_succ, i64_w, i32_w]
                rfl
               refine last_ (i := 12) (N := some 83) #[true, true, true, true, true, true, true, true, true, true, true, true, true, false] rfl rfl (one_of HT_.out (by kernel_rfl)) (by decide) (fun K hK => ?_)
               refine Kd.R_append_step (Kd.int .i64) (w0 := w) w.heap.size (by rfl) (.tmp 71) (.tmp 82) 37 3 (.int .i64 0) 8 rfl Try.underlying37 info3 rfl (by decide) (by omega) u7 x7_3 (wrap64 (Int.tdiv (rd x3_2 (ji36)) (rd x3_2 x59_3))) [.int .i64 (wrap64 (Int.tdiv (rd x3_2 (ji36)) (rd x3_2 x59_3)))] (fun k_ => some k_ ≠ (.slice (some ad552) x3_2.length co47 : Value).ownBlock) (fun _ => False) rfl rfl ?aP (fun _ hk => hk.elim) ?aF ?aO ?aB ?aS ?aL ?_
               (case aP => exact rfl)
               (case aB => exact (Lz HB))
               (case aF => exact (fun k_ hk => Kd.fresh' (Kd.R_lt (Rz HO_3)) k_ hk))
               (case aO => exact (Rz HO_7))
               (case aS => exact (below_size (Lz HB)))
               (case aL => have := LMc46.out; omega)
               intro v559 w49 ho hb hg hat
               rw [← Ny558.out] at ho
               replace HO_3 := Aside0.mk (Kd.R_after (ok := (fun _ => True)) (by (with_reducible repeat (first | apply Kd.R_alloc | apply Kd.R_drewN | apply Kd.R_drew)); exact Kd.R_mono HO_3.out (fun _ hk => ⟨trivial, hk⟩)) hg hat)
               replace HB := Aside0.mk (hb)
               have HO560 := Aside0.mk (ho)
               clear HO_7
               clear ho hb hg hat
               refine hK.out _ _ ?_
               clear hK K
               refine norm_ (a' := ?_) ?_ ?_
               rotate_left
               ·show Act.put _ (some 83) _ = _
                simp only [Act.put, List.setIfInBounds_toArray, List.set_cons_zero, List.set_cons_succ, i64_w, i32_w]
                rfl
               refine pureT_ 13 7 HT_ ?_
               refine done_ (done_of HT_.out (by kernel_rfl)) ?_
               try go_wp2
               go_roundg k3
               case measure => have := HJ1.out; have := HK2.out; have := HK3.out; omega
               case rel => exact ⟨(y558), (ji36), (by first | rfl | (simp; done) | (simp only [← hji36] <;> (first | rfl | simp)) | (simp [*]; done)), H', ⟨by have := HJ1.out; have := HK2.out; have := HK3.out; omega⟩, ⟨by (with_reducible repeat (first | apply Kd.R_alloc | apply Kd.R_drewN | apply Kd.R_drew)); exact Kd.R_mono HO_3.out (fun _ hk => hk.2)⟩, ⟨by exact Rz HO560⟩, ⟨by exact Lz HB⟩⟩
              rw [if_neg c46] at H
              exact absurd H (by simp)
             rw [if_neg c44] at H
             exact absurd H (by simp)
            rw [if_neg c43] at H
            exact absurd H (by simp)
           rw [if_neg c38] at H
           exact absurd H (by simp)
          rw [if_neg c37] at H
          exact absurd H (by simp)
         rw [if_neg c35] at H
         have c35b0 : decide (x59_3 < (l0.length : Int)) = false := decide_eq_false c35
         clear c35
         obtain rfl := Option.some.inj H
         go_wp2
         go_ret
         exact ⟨_, by first | rfl | (simp [errW_none, errW_some] <;> rfl) | (simp only [← hji6, ← hji11]; first | rfl | (simp [errW_none, errW_some] <;> rfl)) | (simp [*, errW_none, errW_some] <;> rfl), by (with_reducible repeat (first | apply Kd.R_alloc | apply Kd.R_drewN | apply Kd.R_drew)); exact Kd.R_mono HO_7.out (fun _ hk => trivial), by exact Lz HB⟩
    rw [if_neg c8] at H
    exact absurd H (by simp)
   rw [if_neg c7] at H
   exact absurd H (by simp)
mutual
def laws_FnExactInvariantFactors.j0 : Nat → List (List Int) → Option (Bool)
 | 0, _ => none
 | k + 1, x0 => (laws_toIntSS.f k x0).bind fun t562 => ((spec_InvariantFactors.f k t562).bind fun t565 => ((laws_toIntSS.f k x0).bind fun t568 => ((impl_InvariantFactors.f k t568).bind fun t571 => ((laws_eqIntS.f k t571 t565).bind fun t574 => (if t574 = true then (laws_FnExactInvariantFactors.j1 k x0 t565 t568 t571) else (some false))))))
def laws_FnExactInvariantFactors.j1 : Nat → List (List Int) → List Int → List (List Int) → List Int → Option (Bool)
 | 0, _, _, _, _ => none
 | k + 1, x0, x4, x5, x6 => (laws_toIntSS.f k x0).bind fun t575 => ((laws_eqIntSS.f k x5 t575).bind fun t578 => (if t578 = true then (laws_FnExactInvariantFactors.j2 k x0 x4 x5 x6) else (some false)))
def laws_FnExactInvariantFactors.j2 : Nat → List (List Int) → List Int → List (List Int) → List Int → Option (Bool)
 | 0, _, _, _, _ => none
 | k + 1, x0, x4, x5, x6 => (laws_markIntSS.f k x5 1).bind fun bt579 => (if bt579.1 < 0 then (laws_FnExactInvariantFactors.j3 k x0 x4 x6 true) else ((laws_eqIntS.f k x6 x4).bind fun t581 => (laws_FnExactInvariantFactors.j3 k x0 x4 x6 (!t581))))
def laws_FnExactInvariantFactors.j3 : Nat → List (List Int) → List Int → List Int → Bool → Option (Bool)
 | 0, _, _, _, _ => none
 | k + 1, x0, x4, x6, x42 => if x42 = true then (some false) else (laws_FnExactInvariantFactors.j4 k x0 x4 x6)
def laws_FnExactInvariantFactors.j4 : Nat → List (List Int) → List Int → List Int → Option (Bool)
 | 0, _, _, _ => none
 | k + 1, x0, x4, x6 => (laws_markIntS.f k x6 1).bind fun bt582 => ((laws_heldIntS.f k bt582.2 1).bind fun t584 => (if t584 < 0 then (some false) else (laws_FnExactInvariantFactors.j5 k x0 x4 bt582.2 bt582.1 t584)))
def laws_FnExactInvariantFactors.j5 : Nat → List (List Int) → List Int → List Int → Int → Int → Option (Bool)
 | 0, _, _, _, _, _ => none
 | k + 1, x0, x4, x6, x8, x9 => if x9 = x8 then (laws_FnExactInvariantFactors.j6 k x0 x4 x6 x8) else (some false)
def laws_FnExactInvariantFactors.j6 : Nat → List (List Int) → List Int → List Int → Int → Option (Bool)
 | 0, _, _, _, _ => none
 | k + 1, x0, x4, x6, x8 => (laws_toIntSS.f k x0).bind fun t585 => ((impl_InvariantFactors.f k t585).bind fun t588 => ((laws_eqIntS.f k t588 x4).bind fun t591 => (if t591 = true then (laws_FnExactInvariantFactors.j7 k x6 x8) else (some false))))
def laws_FnExactInvariantFactors.j7 : Nat → List Int → Int → Option (Bool)
 | 0, _, _ => none
 | k + 1, x6, x8 => (laws_heldIntS.f k x6 1).bind fun t592 => (if t592 < 0 then (some false) else (laws_FnExactInvariantFactors.j8 k x8 t592))
def laws_FnExactInvariantFactors.j8 : Nat → Int → Int → Option (Bool)
 | 0, _, _ => none
 | k + 1, x8, x9 => if x9 = x8 then (some true) else (some false)
end
def laws_FnExactInvariantFactors.f (k : Nat) (l0 : List (List Int)) : Option (Bool) := (laws_szIntSS.f k l0 1048576).bind fun t561 => (if t561 < 0 then (some true) else (laws_FnExactInvariantFactors.j0 k l0))
set_option maxHeartbeats 8000000 in
set_option maxRecDepth 100000 in
theorem laws_FnExactInvariantFactors.calls (k : Nat) (A0 : Option Addr) (c0 : Nat) (l0 : List (List Int)) (r : Bool) (w : World) (hr0 : Kd.C (Kd.slice 3 (Kd.int .i64)) w A0 l0.length l0) (hc0 : l0.length ≤ c0) (h : laws_FnExactInvariantFactors.f k l0 = some r) (hR_ : r = true := by rfl) :
  Calls Try.prog 4 #[.slice A0 l0.length c0] w fun e w' => e = .returned (.bool r) ∧ Below w.heap.size w w' := by
 have HR_ := Aside0.mk hR_
 clear hR_
 have HR0 := Aside0.mk hr0
 have HC0 := Aside0.mk hc0
 clear hr0 hc0
 have HB := Aside0.mk (Below.refl w.heap.size w)
 have H : ((laws_szIntSS.f k l0 1048576).bind fun t561 => (if t561 < 0 then (some true) else (laws_FnExactInvariantFactors.j0 k l0))) = some r := h
 clear h
 replace H := Option.bind_eq_some_iff.mp H
 obtain ⟨t561, A20, H⟩ := H
 replace H : (if t561 < 0 then (some true) else (laws_FnExactInvariantFactors.j0 k l0)) = some r := H
 have A2 := Aside0.mk A20
 clear A20
 have HC3 := Aside0.mk H
 clear H
 go_enter Try.func4, Try.ntmps4
 go_upto_if 15 with (first | ((with_reducible refine gate_callee (f := 20) rfl ?_); refine goesM_ (some 13) rfl rfl Try.func20 (by kernel_rfl) rfl #[.slice A0 l0.length c0, .int .i64 1048576] rfl ?_; (with_reducible refine (laws_szIntSS.calls k _ _ l0 1048576 t561 _ ?side1 ?side2 A2.out).mono ?_); (case side1 => exact Cz (HR0.out)); (case side2 => exact HC0.out); rintro e w' ⟨rfl, ⟨nd, rfl⟩⟩; refine ⟨_, rfl, ?_⟩))
 (try simp only [Act.put, List.setIfInBounds_toArray, List.set_cons_zero, List.set_cons_succ])
 go_cut [] (fun wc => ∃ (kq : Nat), Aside0 (laws_FnExactInvariantFactors.j0 kq l0 = some r) ∧ Aside0 (kq ≤ k) ∧ Aside0 (Below w.heap.size w wc))
 case first =>
  have H := HC3.out
  clear HC3
  by_cases c4 : t561 < 0
  ·rw [if_pos c4] at H
   have c4b0 : decide (t561 < 0) = true := decide_eq_true c4
   clear c4
   (first | rw [c4b0] | (simp only [i64_w, i32_w]; rw [c4b0]) | skip)
   obtain rfl := Option.some.inj H
   go_wp2
   go_ret
   exact ⟨by first | rfl | (simp [errW_none, errW_some] <;> rfl) | (simp [*, errW_none, errW_some] <;> rfl), by exact Lz HB⟩
  rw [if_neg c4] at H
  have c4b0 : decide (t561 < 0) = false := decide_eq_false c4
  clear c4
  (first | rw [c4b0] | (simp only [i64_w, i32_w]; rw [c4b0]) | skip)
  have H' := Aside0.mk H
  clear H
  go_wp2
  go_meet
  case rel => exact ⟨_, H', ⟨by first | omega | exact Nat.le_refl _⟩, ⟨by exact Lz HB⟩⟩
 case rest =>
  clear HC3
  try clear c4
  try clear c4b0
  obtain ⟨kq, HA, HJ2, HB⟩ := hcut
  cases kq with
  | zero => exact absurd HA.out (by simp [laws_FnExactInvariantFactors.j0])
  | succ kj2 =>
   have H := HA.out
   clear HA
   simp only [laws_FnExactInvariantFactors.j0] at H
   replace H := Option.bind_eq_some_iff.mp H
   obtain ⟨t562, A50, H⟩ := H
   replace H : ((spec_InvariantFactors.f kj2 t562).bind fun t565 => ((laws_toIntSS.f kj2 l0).bind fun t568 => ((impl_InvariantFactors.f kj2 t568).bind fun t571 => ((laws_eqIntS.f kj2 t571 t565).bind fun t574 => (if t574 = true then (laws_FnExactInvariantFactors.j1 kj2 l0 t565 t568 t571) else (some false)))))) = some r := H
   have A5 := Aside0.mk A50
   clear A50
   replace H := Option.bind_eq_some_iff.mp H
   obtain ⟨t565, A60, H⟩ := H
   replace H : ((laws_toIntSS.f kj2 l0).bind fun t568 => ((impl_InvariantFactors.f kj2 t568).bind fun t571 => ((laws_eqIntS.f kj2 t571 t565).bind fun t574 => (if t574 = true then (laws_FnExactInvariantFactors.j1 kj2 l0 t565 t568 t571) else (some false))))) = some r := H
   have A6 := Aside0.mk A60
   clear A60
   replace H := Option.bind_eq_some_iff.mp H
   obtain ⟨t568, A70, H⟩ := H
   replace H : ((impl_InvariantFactors.f kj2 t568).bind fun t571 => ((laws_eqIntS.f kj2 t571 t565).bind fun t574 => (if t574 = true then (laws_FnExactInvariantFactors.j1 kj2 l0 t565 t568 t571) else (some false)))) = some r := H
   have A7 := Aside0.mk A70
   clear A70
   replace H := Option.bind_eq_some_iff.mp H
   obtain ⟨t571, A80, H⟩ := H
   replace H : ((laws_eqIntS.f kj2 t571 t565).bind fun t574 => (if t574 = true then (laws_FnExactInvariantFactors.j1 kj2 l0 t565 t568 t571) else (some false))) = some r := H
   have A8 := Aside0.mk A80
   clear A80
   replace H := Option.bind_eq_some_iff.mp H
   obtain ⟨t574, A90, H⟩ := H
   replace H : (if t574 = true then (laws_FnExactInvariantFactors.j1 kj2 l0 t565 t568 t571) else (some false)) = some r := H
   have A9 := Aside0.mk A90
   clear A90
   have HC10 := Aside0.mk H
   clear H
   go_upto_if 26 with (first | ((with_reducible refine gate_callee (f := 22) rfl ?_); refine goesM_ (some 17) rfl rfl Try.func22 (by kernel_rfl) rfl #[.slice A0 l0.length c0] rfl ?_; (with_reducible refine (laws_toIntSS.calls kj2 _ _ l0 t562 _ ?side1 ?side2 A5.out).mono ?_); (case side1 => exact Cz ((Kd.C_below HR0.out HB.out))); (case side2 => exact HC0.out); rintro e w11 ⟨v563, rfl, ho0, hb⟩; refine ⟨_, rfl, ?_⟩; have HO564 := Aside0.mk (Kd.S_lower ho0 (below_size (Lz HB))); replace HB := Aside0.mk (below_step (Lz HB) hb); (try clear hb); (try clear ho0); obtain ⟨Ao12, co12, eo12⟩ := Kd.S_slice HO564.out; subst eo12) | ((with_reducible refine gate_callee (f := 21) rfl ?_); refine goesM_ (some 18) rfl rfl Try.func21 (by kernel_rfl) rfl #[.slice Ao12 t562.length co12] rfl ?_; (with_reducible refine (spec_InvariantFactors.calls kj2 _ _ t562 t565 _ ?side1 ?side2 A6.out).mono ?_); (case side1 => exact Cz ((Kd.S_reads' HO564.out).2.2)); (case side2 => exact (Kd.S_reads' HO564.out).2.1); rintro e w13 ⟨v566, rfl, ho0, hb⟩; refine ⟨_, rfl, ?_⟩; replace HO564 := Aside0.mk (Kd.S_elder' (by (with_reducible repeat (first | apply Kd.S_alloc | apply Kd.S_drewN | apply Kd.S_drew)); exact HO564.out) (Kd.R_base ho0) hb); have HO567 := Aside0.mk (Kd.R_lower ho0 (below_size (Lz HB))); replace HB := Aside0.mk (below_step (Lz HB) hb); (try clear hb); (try clear ho0)) | ((with_reducible refine gate_callee (f := 22) rfl ?_); refine goesM_ (some 20) rfl rfl Try.func22 (by kernel_rfl) rfl #[.slice A0 l0.length c0] rfl ?_; (with_reducible refine (laws_toIntSS.calls kj2 _ _ l0 t568 _ ?side1 ?side2 A7.out).mono ?_); (case side1 => exact Cz ((Kd.C_below HR0.out HB.out))); (case side2 => exact HC0.out); rintro e w14 ⟨v569, rfl, ho0, hb⟩; refine ⟨_, rfl, ?_⟩; have HO570 := Aside0.mk (Kd.S_lower (Kd.S_new' (Kd.S_new' ho0 (Kd.S_lt (by (with_reducible repeat (first | apply Kd.S_alloc | apply Kd.S_drewN | apply Kd.S_drew)); exact HO564.out))) (Kd.R_lt (Rz HO567))) (below_size (Lz HB))); replace HO564 := Aside0.mk (Kd.S_elder' (by (with_reducible repeat (first | apply Kd.S_alloc | apply Kd.S_drewN | apply Kd.S_drew)); exact HO564.out) (Kd.S_base ho0) hb); replace HO567 := Aside0.mk (Kd.R_below (Rz HO567) hb); replace HB := Aside0.mk (below_step (Lz HB) hb); (try clear hb); (try clear ho0); obtain ⟨Ao15, co15, eo15⟩ := Kd.S_slice HO570.out; subst eo15) | ((with_reducible refine gate_callee (f := 23) rfl ?_); refine goesM_ (some 22) rfl rfl Try.func23 (by kernel_rfl) rfl #[.slice Ao15 t568.length co15] rfl ?_; (with_reducible refine (impl_InvariantFactors.calls kj2 _ _ t568 t571 _ ?side1 ?side2 A8.out).mono ?_); (case side1 => exact Cz ((Kd.S_reads' HO570.out).2.2)); (case side2 => exact (Kd.S_reads' HO570.out).2.1); rintro e w16 ⟨v572, rfl, ho0, hb⟩; refine ⟨_, rfl, ?_⟩; replace HO564 := Aside0.mk (Kd.S_elder' (by (with_reducible repeat (first | apply Kd.S_alloc | apply Kd.S_drewN | apply Kd.S_drew)); exact HO564.out) (Kd.R_base ho0) hb); replace HO570 := Aside0.mk (Kd.S_elder' (by (with_reducible repeat (first | apply Kd.S_alloc | apply Kd.S_drewN | apply Kd.S_drew)); exact HO570.out) (Kd.R_base ho0) hb); have HO573 := Aside0.mk (Kd.R_lower (Kd.R_new' ho0 (Kd.R_lt (Rz HO567))) (below_size (Lz HB))); replace HO567 := Aside0.mk (Kd.R_elder' (Rz HO567) (Kd.R_base ho0) hb); replace HB := Aside0.mk (below_step (Lz HB) hb); (try clear hb); (try clear ho0); obtain ⟨Ao17, co17, eo17⟩ := Kd.R_slice HO573.out; subst eo17; obtain ⟨Ao18, co18, eo18⟩ := Kd.R_slice HO567.out; subst eo18) | ((with_reducible refine gate_callee (f := 24) rfl ?_); refine goesM_ (some 25) rfl rfl Try.func24 (by kernel_rfl) rfl #[.slice Ao17 t571.length co17, .slice Ao18 t565.length co18] rfl ?_; (with_reducible refine (laws_eqIntS.calls kj2 _ _ t571 _ _ t565 t574 _ ?side1 ?side2 ?side3 ?side4 A9.out).mono ?_); (case side1 => exact Cz ((Kd.R_reads' HO573.out).2.2)); (case side2 => exact (Kd.R_reads' HO573.out).2.1); (case side3 => exact Cz ((Kd.R_reads' HO567.out).2.2)); (case side4 => exact (Kd.R_reads' HO567.out).2.1); rintro e w' ⟨rfl, ⟨nd, rfl⟩⟩; refine ⟨_, rfl, ?_⟩))
   (try simp only [Act.put, List.setIfInBounds_toArray, List.set_cons_zero, List.set_cons_succ])
   go_cut [] (fun wc => ∃ (kq : Nat), Aside0 (laws_FnExactInvariantFactors.j1 kq l0 t565 t568 t571 = some r) ∧ Aside0 (kq ≤ kj2) ∧ Aside0 (Kd.R (Kd.int .i64) 3 wc w.heap.size (fun k_ => some k_ ≠ ((.slice Ao17 t571.length co17) : Value).ownBlock) (.slice Ao18 t565.length co18) t565) ∧ Aside0 (Kd.S (Kd.slice 3 (Kd.int .i64)) 37 wc w.heap.size (fun k_ => some k_ ≠ ((.slice Ao18 t565.length co18) : Value).ownBlock ∧ some k_ ≠ ((.slice Ao17 t571.length co17) : Value).ownBlock) (.slice Ao15 t568.length co15) t568) ∧ Aside0 (Kd.R (Kd.int .i64) 3 wc w.heap.size (fun k_ => some k_ ≠ ((.slice Ao18 t565.length co18) : Value).ownBlock) (.slice Ao17 t571.length co17) t571) ∧ Aside0 (Below w.heap.size w wc))
   case first =>
    have H := HC10.out
    clear HC10
    by_cases c19 : t574 = true
    ·subst c19
     have H1 : (laws_FnExactInvariantFactors.j1 kj2 l0 t565 t568 t571) = some r := by rw [if_pos rfl] at H; exact H
     clear H
     have H := H1
     clear H1
     have H' := Aside0.mk H
     clear H
     go_wp2
     go_meet
     case rel => exact ⟨_, H', ⟨by have := HJ2.out; first | omega | exact Nat.le_refl _⟩, ⟨by (with_reducible repeat (first | apply Kd.R_alloc | apply Kd.R_drewN | apply Kd.R_drew)); exact Kd.R_mono HO567.out (fun _ hk => hk.2)⟩, ⟨by (with_reducible repeat (first | apply Kd.S_alloc | apply Kd.S_drewN | apply Kd.S_drew)); exact Kd.S_mono HO570.out (fun _ hk => ⟨hk.1.2, hk.2⟩)⟩, ⟨by (with_reducible repeat (first | apply Kd.R_alloc | apply Kd.R_drewN | apply Kd.R_drew)); exact Kd.R_mono HO573.out (fun _ hk => hk.2)⟩, ⟨by exact Lz HB⟩⟩
    replace c19 := Bool.eq_false_iff.mpr c19
    subst c19
    have H1 : (some false) = some r := by rw [if_neg (show ¬ (false = true) by decide)] at H; exact H
    clear H
    have H := H1
    clear H1
    exact absurd (Option.some.inj H) (by rw [HR_.out]; decide)
   case rest =>
    clear HC10
    try clear c4
    try clear c4b0
    try clear c19
    obtain ⟨kq, HA, HJ9, HO_4, HO_5, HO_6, HB⟩ := hcut
    cases kq with
    | zero => exact absurd HA.out (by simp [laws_FnExactInvariantFactors.j1])
    | succ kj9 =>
     have H := HA.out
     clear HA
     simp only [laws_FnExactInvariantFactors.j1] at H
     replace H := Option.bind_eq_some_iff.mp H
     obtain ⟨t575, A200, H⟩ := H
     replace H : ((laws_eqIntSS.f kj9 t568 t575).bind fun t578 => (if t578 = true then (laws_FnExactInvariantFactors.j2 kj9 l0 t565 t568 t571) else (some false))) = some r := H
     have A20 := Aside0.mk A200
     clear A200
     replace H := Option.bind_eq_some_iff.mp H
     obtain ⟨t578, A210, H⟩ := H
     replace H : (if t578 = true then (laws_FnExactInvariantFactors.j2 kj9 l0 t565 t568 t571) else (some false)) = some r := H
     have A21 := Aside0.mk A210
     clear A210
     have HC22 := Aside0.mk H
     clear H
     go_upto_if 31 with (first | ((with_reducible refine gate_callee (f := 22) rfl ?_); refine goesM_ (some 29) rfl rfl Try.func22 (by kernel_rfl) rfl #[.slice A0 l0.length c0] rfl ?_; (with_reducible refine (laws_toIntSS.calls kj9 _ _ l0 t575 _ ?side1 ?side2 A20.out).mono ?_); (case side1 => exact Cz ((Kd.C_below HR0.out HB.out))); (case side2 => exact HC0.out); rintro e w23 ⟨v576, rfl, ho0, hb⟩; refine ⟨_, rfl, ?_⟩; have HO577 := Aside0.mk (Kd.S_lower (Kd.S_new' (Kd.S_new' (Kd.S_new' ho0 (Kd.R_lt (Rz HO_4))) (Kd.S_lt (by (with_reducible repeat (first | apply Kd.S_alloc | apply Kd.S_drewN | apply Kd.S_drew)); exact HO_5.out))) (Kd.R_lt (Rz HO_6))) (below_size (Lz HB))); replace HO_4 := Aside0.mk (Kd.R_below (Rz HO_4) hb); replace HO_5 := Aside0.mk (Kd.S_elder' (by (with_reducible repeat (first | apply Kd.S_alloc | apply Kd.S_drewN | apply Kd.S_drew)); exact HO_5.out) (Kd.S_base ho0) hb); replace HO_6 := Aside0.mk (Kd.R_below (Rz HO_6) hb); replace HB := Aside0.mk (below_step (Lz HB) hb); (try clear hb); (try clear ho0); obtain ⟨Ao24, co24, eo24⟩ := Kd.S_slice HO577.out; subst eo24) | ((with_reducible refine gate_callee (f := 15) rfl ?_); refine goesM_ (some 30) rfl rfl Try.func15 (by kernel_rfl) rfl #[.slice Ao15 t568.length co15, .slice Ao24 t575.length co24] rfl ?_; (with_reducible refine (laws_eqIntSS.calls kj9 _ _ t568 _ _ t575 t578 _ ?side1 ?side2 ?side3 ?side4 A21.out).mono ?_); (case side1 => exact Cz ((Kd.S_reads' HO_5.out).2.2)); (case side2 => exact (Kd.S_reads' HO_5.out).2.1); (case side3 => exact Cz ((Kd.S_reads' HO577.out).2.2)); (case side4 => exact (Kd.S_reads' HO577.out).2.1); rintro e w' ⟨rfl, ⟨nd, rfl⟩⟩; refine ⟨_, rfl, ?_⟩))
     (try simp only [Act.put, List.setIfInBounds_toArray, List.set_cons_zero, List.set_cons_succ])
     go_cut [] (fun wc => ∃ (kq : Nat), Aside0 (laws_FnExactInvariantFactors.j2 kq l0 t565 t568 t571 = some r) ∧ Aside0 (kq ≤ kj9) ∧ Aside0 (Kd.R (Kd.int .i64) 3 wc w.heap.size (fun k_ => some k_ ≠ ((.slice Ao17 t571.length co17) : Value).ownBlock) (.slice Ao18 t565.length co18) t565) ∧ Aside0 (Kd.S (Kd.slice 3 (Kd.int .i64)) 37 wc w.heap.size (fun k_ => some k_ ≠ ((.slice Ao18 t565.length co18) : Value).ownBlock ∧ some k_ ≠ ((.slice Ao17 t571.length co17) : Value).ownBlock) (.slice Ao15 t568.length co15) t568) ∧ Aside0 (Kd.R (Kd.int .i64) 3 wc w.heap.size (fun k_ => some k_ ≠ ((.slice Ao18 t565.length co18) : Value).ownBlock) (.slice Ao17 t571.length co17) t571) ∧ Aside0 (Below w.heap.size w wc))
     case first =>
      have H := HC22.out
      clear HC22
      by_cases c25 : t578 = true
      ·subst c25
       have H1 : (laws_FnExactInvariantFactors.j2 kj9 l0 t565 t568 t571) = some r := by rw [if_pos rfl] at H; exact H
       clear H
       have H := H1
       clear H1
       have H' := Aside0.mk H
       clear H
       go_wp2
       go_meet
       case rel => exact ⟨_, H', ⟨by have := HJ2.out; have := HJ9.out; first | omega | exact Nat.le_refl _⟩, ⟨by exact Rz HO_4⟩, ⟨by (with_reducible repeat (first | apply Kd.S_alloc | apply Kd.S_drewN | apply Kd.S_drew)); exact Kd.S_mono HO_5.out (fun _ hk => ⟨hk.1.1, hk.1.2⟩)⟩, ⟨by exact Rz HO_6⟩, ⟨by exact Lz HB⟩⟩
      replace c25 := Bool.eq_false_iff.mpr c25
      subst c25
      have H1 : (some false) = some r := by rw [if_neg (show ¬ (false = true) by decide)] at H; exact H
      clear H
      have H := H1
      clear H1
      exact absurd (Option.some.inj H) (by rw [HR_.out]; decide)
     case rest =>
      clear HC22
      try clear c4
      try clear c4b0
      try clear c19
      try clear c25
      obtain ⟨kq, HA, HJ21, HO_4, HO_5, HO_6, HB⟩ := hcut
      cases kq with
      | zero => exact absurd HA.out (by simp [laws_FnExactInvariantFactors.j2])
      | succ kj21 =>
       have H := HA.out
       clear HA
       simp only [laws_FnExactInvariantFactors.j2] at H
       replace H := Option.bind_eq_some_iff.mp H
       obtain ⟨⟨t579, t580⟩, A260, H⟩ := H
       replace H : (if t579 < 0 then (laws_FnExactInvariantFactors.j3 kj21 l0 t565 t571 true) else ((laws_eqIntS.f kj21 t571 t565).bind fun t581 => (laws_FnExactInvariantFactors.j3 kj21 l0 t565 t571 (!t581)))) = some r := H
       have A26 := Aside0.mk A260
       clear A260
       have HC27 := Aside0.mk H
       clear H
       go_upto_region 14 with (first | ((with_reducible refine gate_callee (f := 18) rfl ?_); refine goesM_ (some 34) rfl rfl Try.func18 (by kernel_rfl) rfl #[.slice Ao15 t568.length co15, .int .i64 1] rfl ?_; (with_reducible refine (laws_markIntSS.calls kj21 (fun k_ => (some k_ ≠ (.slice Ao18 t565.length co18 : Value).ownBlock ∧ some k_ ≠ (.slice Ao17 t571.length co17 : Value).ownBlock)) (.slice Ao15 t568.length co15) t568 1 t579 t580 w _ ?side1 ?side2 A26.out).mono ?_); (case side1 => exact Lz HB); (case side2 => exact HO_5.out); rintro e w28 ⟨rfl, hy0, hb, hkp⟩; refine ⟨_, rfl, ?_⟩; replace HO_4 := Aside0.mk (Kd.R_mono (Kd.R_keptB (Kd.R_tight rfl HO_4.out) hkp (fun k_ hk_ hs_ => (hs_.1) hk_)) (fun k_ hk_ => HO_4.out.1 k_ hk_.1.symm)); replace HO_5 := Aside0.mk (Kd.S_mono (ok' := fun k_ => (some k_ ≠ (.slice Ao18 t565.length co18 : Value).ownBlock ∧ some k_ ≠ (.slice Ao17 t571.length co17 : Value).ownBlock)) hy0 (fun k_ hk_ => by first | exact trivial | exact hk_ | exact hk_.1 | exact hk_.1.1 | exact hk_.1.1.1 | exact hk_.1.1.1.1 | exact hk_.1.1.1.1.1 | exact hk_.1.1.1.1.1.1)); replace HO_6 := Aside0.mk (Kd.R_mono (Kd.R_keptB (Kd.R_tight rfl HO_6.out) hkp (fun k_ hk_ hs_ => (hs_.2) hk_)) (fun k_ hk_ => HO_6.out.1 k_ hk_.1.symm)); replace HB := Aside0.mk (hb); (try clear hb); (try clear hkp); (try clear hy0)))
       (try simp only [Act.put, List.setIfInBounds_toArray, List.set_cons_zero, List.set_cons_succ])
       go_cut [42] (fun v42 wc => ∃ (kq : Nat) (x42_26 : Bool), v42 = .bool x42_26 ∧ Aside0 (laws_FnExactInvariantFactors.j3 kq l0 t565 t571 x42_26 = some r) ∧ Aside0 (kq ≤ kj21) ∧ Aside0 (Kd.R (Kd.int .i64) 3 wc w.heap.size (fun k_ => some k_ ≠ ((.slice Ao17 t571.length co17) : Value).ownBlock) (.slice Ao18 t565.length co18) t565) ∧ Aside0 (Kd.R (Kd.int .i64) 3 wc w.heap.size (fun k_ => some k_ ≠ ((.slice Ao18 t565.length co18) : Value).ownBlock) (.slice Ao17 t571.length co17) t571) ∧ Aside0 (Below w.heap.size w wc))
       case first =>
        have H := HC27.out
        clear HC27
        by_cases c29 : t579 < 0
        ·rw [if_pos c29] at H
         have c29b0 : decide (t579 < 0) = true := decide_eq_true c29
         clear c29
         (first | rw [c29b0] | (simp only [i64_w, i32_w]; rw [c29b0]) | skip)
         have H' := Aside0.mk H
         clear H
         go_wp2
         go_meet
         case rel => exact ⟨_, (true), eqA, H', ⟨by have := HJ2.out; have := HJ9.out; have := HJ21.out; first | omega | exact Nat.le_refl _⟩, ⟨by exact Rz HO_4⟩, ⟨by exact Rz HO_6⟩, ⟨by exact Lz HB⟩⟩
        rw [if_neg c29] at H
        have c29b0 : decide (t579 < 0) = false := decide_eq_false c29
        clear c29
        (first | rw [c29b0] | (simp only [i64_w, i32_w]; rw [c29b0]) | skip)
        replace H := Option.bind_eq_some_iff.mp H
        obtain ⟨t581, A300, H⟩ := H
        replace H : (laws_FnExactInvariantFactors.j3 kj21 l0 t565 t571 (!t581)) = some r := H
        have A30 := Aside0.mk A300
        clear A300
        have H' := Aside0.mk H
        clear H
        go_wp2_with (first | (go_at_call 24; (with_reducible refine (laws_eqIntS.calls kj21 _ _ t571 _ _ t565 t581 _ ?side1 ?side2 ?side3 ?side4 A30.out).mono ?_); (case side1 => exact Cz ((Kd.R_reads' HO_6.out).2.2)); (case side2 => exact (Kd.R_reads' HO_6.out).2.1); (case side3 => exact Cz ((Kd.R_reads' HO_4.out).2.2)); (case side4 => exact (Kd.R_reads' HO_4.out).2.1); rintro e w' ⟨rfl, ⟨nd, rfl⟩⟩))
        go_meet
        case rel => exact ⟨_, (!t581), eqA, H', ⟨by have := HJ2.out; have := HJ9.out; have := HJ21.out; first | omega | exact Nat.le_refl _⟩, ⟨by exact Rz HO_4⟩, ⟨by exact Rz HO_6⟩, ⟨by exact Lz HB⟩⟩
       case rest =>
        clear HC27
        try clear c4
        try clear c4b0
        try clear c19
        try clear c25
        try clear c29
        try clear c29b0
        obtain ⟨kq, x42_26, rfl, HA, HJ26, HO_4, HO_6, HB⟩ := hcut
        cases kq with
        | zero => exact absurd HA.out (by simp [laws_FnExactInvariantFactors.j3])
        | succ kj26 =>
         have H := HA.out
         clear HA
         simp only [laws_FnExactInvariantFactors.j3] at H
         have HC31 := Aside0.mk H
         clear H
         go_upto_if 42 with (fail)
         go_cut [] (fun wc => ∃ (kq : Nat), Aside0 (laws_FnExactInvariantFactors.j4 kq l0 t565 t571 = some r) ∧ Aside0 (kq ≤ kj26) ∧ Aside0 (Kd.R (Kd.int .i64) 3 wc w.heap.size (fun k_ => some k_ ≠ ((.slice Ao17 t571.length co17) : Value).ownBlock) (.slice Ao18 t565.length co18) t565) ∧ Aside0 (Kd.R (Kd.int .i64) 3 wc w.heap.size (fun k_ => some k_ ≠ ((.slice Ao18 t565.length co18) : Value).ownBlock) (.slice Ao17 t571.length co17) t571) ∧ Aside0 (Below w.heap.size w wc))
         case first =>
          have H := HC31.out
          clear HC31
          by_cases c32 : x42_26 = true
          ·subst c32
           have H1 : (some false) = some r := by rw [if_pos rfl] at H; exact H
           clear H
           have H := H1
           clear H1
           exact absurd (Option.some.inj H) (by rw [HR_.out]; decide)
          replace c32 := Bool.eq_false_iff.mpr c32
          subst c32
          have H1 : (laws_FnExactInvariantFactors.j4 kj26 l0 t565 t571) = some r := by rw [if_neg (show ¬ (false = true) by decide)] at H; exact H
          clear H
          have H := H1
          clear H1
          have H' := Aside0.mk H
          clear H
          go_wp2
          go_meet
          case rel => exact ⟨_, H', ⟨by have := HJ2.out; have := HJ9.out; have := HJ21.out; have := HJ26.out; first | omega | exact Nat.le_refl _⟩, ⟨by exact Rz HO_4⟩, ⟨by exact Rz HO_6⟩, ⟨by exact Lz HB⟩⟩
         case rest =>
          clear HC31
          try clear c4
          try clear c4b0
          try clear c19
          try clear c25
          try clear c29
          try clear c29b0
          try clear c32
          obtain ⟨kq, HA, HJ30, HO_4, HO_6, HB⟩ := hcut
          cases kq with
          | zero => exact absurd HA.out (by simp [laws_FnExactInvariantFactors.j4])
          | succ kj30 =>
           have H := HA.out
           clear HA
           simp only [laws_FnExactInvariantFactors.j4] at H
           replace H := Option.bind_eq_some_iff.mp H
           obtain ⟨⟨t582, t583⟩, A330, H⟩ := H
           replace H : ((laws_heldIntS.f kj30 t583 1).bind fun t584 => (if t584 < 0 then (some false) else (laws_FnExactInvariantFactors.j5 kj30 l0 t565 t583 t582 t584))) = some r := H
           have A33 := Aside0.mk A330
           clear A330
           replace H := Option.bind_eq_some_iff.mp H
           obtain ⟨t584, A340, H⟩ := H
           replace H : (if t584 < 0 then (some false) else (laws_FnExactInvariantFactors.j5 kj30 l0 t565 t583 t582 t584)) = some r := H
           have A34 := Aside0.mk A340
           clear A340
           have HC35 := Aside0.mk H
           clear H
           go_upto_if 50 with (first | ((with_reducible refine gate_callee (f := 25) rfl ?_); refine goesM_ (some 45) rfl rfl Try.func25 (by kernel_rfl) rfl #[.slice Ao17 t571.length co17, .int .i64 1] rfl ?_; (with_reducible refine (laws_markIntS.calls kj30 (fun k_ => some k_ = (.slice Ao17 t571.length co17 : Value).ownBlock) (.slice Ao17 t571.length co17) t571 1 t582 t583 w _ ?side1 ?side2 A33.out).mono ?_); (case side1 => exact Lz HB); (case side2 => exact Kd.R_tight rfl HO_6.out); rintro e w36 ⟨rfl, hy0, hb, hkp⟩; refine ⟨_, rfl, ?_⟩; replace HO_4 := Aside0.mk (Kd.R_mono (ok' := fun k_ => some k_ ≠ (.slice Ao17 t571.length co17 : Value).ownBlock) (Kd.R_keptB (HO_4.out) hkp (fun k_ hk_ hs_ => (hk_) hs_)) (fun k_ hk_ => hk_.1)); replace HO_6 := Aside0.mk (Kd.R_reok rfl hy0 (fun k_ e_ => HO_6.out.1 k_ e_)); replace HB := Aside0.mk (hb); (try clear hb); (try clear hkp); (try clear hy0)) | ((with_reducible refine gate_callee (f := 26) rfl ?_); refine goesL_ (some 48) rfl rfl Try.func26 (by kernel_rfl) rfl #[.slice Ao17 t583.length co17, .int .i64 1] rfl (by (try simp only [List.map_toArray, List.map_cons, List.map_nil]); first | done | (rw [show t583.length = t571.length from (Kd.R_reads' HO_6.out).1.symm] <;> rfl) | rfl | (simp only [List.length_drop, List.length_take]; rfl)) ?_; (with_reducible refine (laws_heldIntS.calls kj30 _ _ t583 1 t584 _ ?side1 ?side2 A34.out).mono ?_); (case side1 => exact Cz ((Kd.R_reads' HO_6.out).2.2)); (case side2 => rw [show t583.length = t571.length from (Kd.R_reads' HO_6.out).1.symm]; exact (Kd.R_reads' HO_6.out).2.1); rintro e w' ⟨rfl, ⟨nd, rfl⟩⟩; refine ⟨_, rfl, ?_⟩))
           (try simp only [Act.put, List.setIfInBounds_toArray, List.set_cons_zero, List.set_cons_succ])
           go_cut [] (fun wc => ∃ (kq : Nat), Aside0 (laws_FnExactInvariantFactors.j5 kq l0 t565 t583 t582 t584 = some r) ∧ Aside0 (kq ≤ kj30) ∧ Aside0 (Kd.R (Kd.int .i64) 3 wc w.heap.size (fun k_ => some k_ ≠ ((.slice Ao17 t571.length co17) : Value).ownBlock) (.slice Ao18 t565.length co18) t565) ∧ Aside0 (Kd.R (Kd.int .i64) 3 wc w.heap.size (fun k_ => some k_ ≠ ((.slice Ao18 t565.length co18) : Value).ownBlock) (.slice Ao17 t571.length co17) t583) ∧ Aside0 (Below w.heap.size w wc))
           case first =>
            have H := HC35.out
            clear HC35
            by_cases c37 : t584 < 0
            ·rw [if_pos c37] at H
             have c37b0 : decide (t584 < 0) = true := decide_eq_true c37
             clear c37
             (first | rw [c37b0] | (simp only [i64_w, i32_w]; rw [c37b0]) | skip)
             obtain rfl := Option.some.inj H
             go_wp2
             go_ret
             exact ⟨by first | rfl | (simp [errW_none, errW_some] <;> rfl) | (simp [*, errW_none, errW_some] <;> rfl), by exact Lz HB⟩
            rw [if_neg c37] at H
            have c37b0 : decide (t584 < 0) = false := decide_eq_false c37
            clear c37
            (first | rw [c37b0] | (simp only [i64_w, i32_w]; rw [c37b0]) | skip)
            have H' := Aside0.mk H
            clear H
            go_wp2
            go_meet
            case rel => exact ⟨_, H', ⟨by have := HJ2.out; have := HJ9.out; have := HJ21.out; have := HJ26.out; have := HJ30.out; first | omega | exact Nat.le_refl _⟩, ⟨by exact Rz HO_4⟩, ⟨by exact Rz HO_6⟩, ⟨by exact Lz HB⟩⟩
           case rest =>
            clear HC35
            try clear c4
            try clear c4b0
            try clear c19
            try clear c25
            try clear c29
            try clear c29b0
            try clear c32
            try clear c37
            try clear c37b0
            obtain ⟨kq, HA, HJ34, HO_4, HO_6, HB⟩ := hcut
            have hl6_34 := (Kd.R_reads' HO_6.out).1
            rw [hl6_34] at HO_6
            (try simp only [hl6_34])
            (try simp only [hl6_34] at HO_4)
            cases kq with
            | zero => exact absurd HA.out (by simp [laws_FnExactInvariantFactors.j5])
            | succ kj34 =>
             have H := HA.out
             clear HA
             simp only [laws_FnExactInvariantFactors.j5] at H
             have HC38 := Aside0.mk H
             clear H
             go_upto_if 53 with (fail)
             go_cut [] (fun wc => ∃ (kq : Nat), Aside0 (laws_FnExactInvariantFactors.j6 kq l0 t565 t583 t582 = some r) ∧ Aside0 (kq ≤ kj34) ∧ Aside0 (Kd.R (Kd.int .i64) 3 wc w.heap.size (fun k_ => some k_ ≠ ((.slice Ao17 t583.length co17) : Value).ownBlock) (.slice Ao18 t565.length co18) t565) ∧ Aside0 (Kd.R (Kd.int .i64) 3 wc w.heap.size (fun k_ => some k_ ≠ ((.slice Ao18 t565.length co18) : Value).ownBlock) (.slice Ao17 t583.length co17) t583) ∧ Aside0 (Below w.heap.size w wc))
             case first =>
              have H := HC38.out
              clear HC38
              by_cases c39 : t584 = t582
              ·rw [if_pos c39] at H
               have c39b0 : (t584 == t582) = true := beq_iff_eq.mpr c39
               have c39b1 : (t584 != t582) = false := bne_eq_false_iff_eq.mpr c39
               clear c39
               (first | rw [c39b0] | (simp only [i64_w, i32_w]; rw [c39b0]) | skip)
               have H' := Aside0.mk H
               clear H
               go_wp2
               go_meet
               case rel => exact ⟨_, H', ⟨by have := HJ2.out; have := HJ9.out; have := HJ21.out; have := HJ26.out; have := HJ30.out; have := HJ34.out; first | omega | exact Nat.le_refl _⟩, ⟨by (try simp only [hl6_34]); exact Rz HO_4⟩, ⟨by (try simp only [hl6_34]); exact Rz HO_6⟩, ⟨by exact Lz HB⟩⟩
              rw [if_neg c39] at H
              have c39b0 : (t584 == t582) = false := beq_eq_false_iff_ne.mpr c39
              have c39b1 : (t584 != t582) = true := bne_iff_ne.mpr c39
              (first | rw [c39b0] | (simp only [i64_w, i32_w]; rw [c39b0]) | skip)
              obtain rfl := Option.some.inj H
              go_wp2
              go_ret
              exact ⟨by first | rfl | (simp [errW_none, errW_some] <;> rfl) | (simp [*, errW_none, errW_some] <;> rfl), by exact Lz HB⟩
             case rest =>
              clear HC38
              try clear c4
              try clear c4b0
              try clear c19
              try clear c25
              try clear c29
              try clear c29b0
              try clear c32
              try clear c37
              try clear c37b0
              try clear c39
              try clear c39b0
              try clear c39b1
              obtain ⟨kq, HA, HJ37, HO_4, HO_6, HB⟩ := hcut
              cases kq with
              | zero => exact absurd HA.out (by simp [laws_FnExactInvariantFactors.j6])
              | succ kj37 =>
               have H := HA.out
               clear HA
               simp only [laws_FnExactInvariantFactors.j6] at H
               replace H := Option.bind_eq_some_iff.mp H
               obtain ⟨t585, A400, H⟩ := H
               replace H : ((impl_InvariantFactors.f kj37 t585).bind fun t588 => ((laws_eqIntS.f kj37 t588 t565).bind fun t591 => (if t591 = true then (laws_FnExactInvariantFactors.j7 kj37 t583 t582) else (some false)))) = some r := H
               have A40 := Aside0.mk A400
               clear A400
               replace H := Option.bind_eq_some_iff.mp H
               obtain ⟨t588, A410, H⟩ := H
               replace H : ((laws_eqIntS.f kj37 t588 t565).bind fun t591 => (if t591 = true then (laws_FnExactInvariantFactors.j7 kj37 t583 t582) else (some false))) = some r := H
               have A41 := Aside0.mk A410
               clear A410
               replace H := Option.bind_eq_some_iff.mp H
               obtain ⟨t591, A420, H⟩ := H
               replace H : (if t591 = true then (laws_FnExactInvariantFactors.j7 kj37 t583 t582) else (some false)) = some r := H
               have A42 := Aside0.mk A420
               clear A420
               have HC43 := Aside0.mk H
               clear H
               go_upto_if 60 with (first | ((with_reducible refine gate_callee (f := 22) rfl ?_); refine goesM_ (some 55) rfl rfl Try.func22 (by kernel_rfl) rfl #[.slice A0 l0.length c0] rfl ?_; (with_reducible refine (laws_toIntSS.calls kj37 _ _ l0 t585 _ ?side1 ?side2 A40.out).mono ?_); (case side1 => exact Cz ((Kd.C_below HR0.out HB.out))); (case side2 => exact HC0.out); rintro e w44 ⟨v586, rfl, ho0, hb⟩; refine ⟨_, rfl, ?_⟩; have HO587 := Aside0.mk (Kd.S_lower (Kd.S_new' (Kd.S_new' ho0 (Kd.R_lt (Rz HO_4))) (Kd.R_lt (Rz HO_6))) (below_size (Lz HB))); replace HO_4 := Aside0.mk (Kd.R_below (Rz HO_4) hb); replace HO_6 := Aside0.mk (Kd.R_below (Rz HO_6) hb); replace HB := Aside0.mk (below_step (Lz HB) hb); (try clear hb); (try clear ho0); obtain ⟨Ao45, co45, eo45⟩ := Kd.S_slice HO587.out; subst eo45) | ((with_reducible refine gate_callee (f := 23) rfl ?_); refine goesM_ (some 56) rfl rfl Try.func23 (by kernel_rfl) rfl #[.slice Ao45 t585.length co45] rfl ?_; (with_reducible refine (impl_InvariantFactors.calls kj37 _ _ t585 t588 _ ?side1 ?side2 A41.out).mono ?_); (case side1 => exact Cz ((Kd.S_reads' HO587.out).2.2)); (case side2 => exact (Kd.S_reads' HO587.out).2.1); rintro e w46 ⟨v589, rfl, ho0, hb⟩; refine ⟨_, rfl, ?_⟩; replace HO587 := Aside0.mk (Kd.S_elder' (by (with_reducible repeat (first | apply Kd.S_alloc | apply Kd.S_drewN | apply Kd.S_drew)); exact HO587.out) (Kd.R_base ho0) hb); have HO590 := Aside0.mk (Kd.R_lower (Kd.R_new' (Kd.R_new' ho0 (Kd.R_lt (Rz HO_4))) (Kd.R_lt (Rz HO_6))) (below_size (Lz HB))); replace HO_4 := Aside0.mk (Kd.R_elder' (Rz HO_4) (Kd.R_base ho0) hb); replace HO_6 := Aside0.mk (Kd.R_elder' (Rz HO_6) (Kd.R_base ho0) hb); replace HB := Aside0.mk (below_step (Lz HB) hb); (try clear hb); (try clear ho0); obtain ⟨Ao47, co47, eo47⟩ := Kd.R_slice HO590.out; subst eo47) | ((with_reducible refine gate_callee (f := 24) rfl ?_); refine goesM_ (some 59) rfl rfl Try.func24 (by kernel_rfl) rfl #[.slice Ao47 t588.length co47, .slice Ao18 t565.length co18] rfl ?_; (with_reducible refine (laws_eqIntS.calls kj37 _ _ t588 _ _ t565 t591 _ ?side1 ?side2 ?side3 ?side4 A42.out).mono ?_); (case side1 => exact Cz ((Kd.R_reads' HO590.out).2.2)); (case side2 => exact (Kd.R_reads' HO590.out).2.1); (case side3 => exact Cz ((Kd.R_reads' HO_4.out).2.2)); (case side4 => exact (Kd.R_reads' HO_4.out).2.1); rintro e w' ⟨rfl, ⟨nd, rfl⟩⟩; refine ⟨_, rfl, ?_⟩))
               (try simp only [Act.put, List.setIfInBounds_toArray, List.set_cons_zero, List.set_cons_succ])
               go_cut [] (fun wc => ∃ (kq : Nat), Aside0 (laws_FnExactInvariantFactors.j7 kq t583 t582 = some r) ∧ Aside0 (kq ≤ kj37) ∧ Aside0 (Kd.R (Kd.int .i64) 3 wc w.heap.size (fun _ => True) (.slice Ao17 t583.length co17) t583) ∧ Aside0 (Below w.heap.size w wc))
               case first =>
                have H := HC43.out
                clear HC43
                by_cases c48 : t591 = true
                ·subst c48
                 have H1 : (laws_FnExactInvariantFactors.j7 kj37 t583 t582) = some r := by rw [if_pos rfl] at H; exact H
                 clear H
                 have H := H1
                 clear H1
                 have H' := Aside0.mk H
                 clear H
                 go_wp2
                 go_meet
                 case rel => exact ⟨_, H', ⟨by have := HJ2.out; have := HJ9.out; have := HJ21.out; have := HJ26.out; have := HJ30.out; have := HJ34.out; have := HJ37.out; first | omega | exact Nat.le_refl _⟩, ⟨by (try simp only [hl6_34]); (with_reducible repeat (first | apply Kd.R_alloc | apply Kd.R_drewN | apply Kd.R_drew)); exact Kd.R_mono HO_6.out (fun _ hk => trivial)⟩, ⟨by exact Lz HB⟩⟩
                replace c48 := Bool.eq_false_iff.mpr c48
                subst c48
                have H1 : (some false) = some r := by rw [if_neg (show ¬ (false = true) by decide)] at H; exact H
                clear H
                have H := H1
                clear H1
                exact absurd (Option.some.inj H) (by rw [HR_.out]; decide)
               case rest =>
                clear HC43
                try clear c4
                try clear c4b0
                try clear c19
                try clear c25
                try clear c29
                try clear c29b0
                try clear c32
                try clear c37
                try clear c37b0
                try clear c39
                try clear c39b0
                try clear c39b1
                try clear c48
                obtain ⟨kq, HA, HJ42, HO_6, HB⟩ := hcut
                cases kq with
                | zero => exact absurd HA.out (by simp [laws_FnExactInvariantFactors.j7])
                | succ kj42 =>
                 have H := HA.out
                 clear HA
                 simp only [laws_FnExactInvariantFactors.j7] at H
                 replace H := Option.bind_eq_some_iff.mp H
                 obtain ⟨t592, A490, H⟩ := H
                 replace H : (if t592 < 0 then (some false) else (laws_FnExactInvariantFactors.j8 kj42 t582 t592)) = some r := H
                 have A49 := Aside0.mk A490
                 clear A490
                 have HC50 := Aside0.mk H
                 clear H
                 go_upto_if 65 with (first | ((with_reducible refine gate_callee (f := 26) rfl ?_); refine goesM_ (some 63) rfl rfl Try.func26 (by kernel_rfl) rfl #[.slice Ao17 t583.length co17, .int .i64 1] rfl ?_; (with_reducible refine (laws_heldIntS.calls kj42 _ _ t583 1 t592 _ ?side1 ?side2 A49.out).mono ?_); (case side1 => exact Cz ((Kd.R_reads' HO_6.out).2.2)); (case side2 => exact (Kd.R_reads' HO_6.out).2.1); rintro e w' ⟨rfl, ⟨nd, rfl⟩⟩; refine ⟨_, rfl, ?_⟩))
                 (try simp only [Act.put, List.setIfInBounds_toArray, List.set_cons_zero, List.set_cons_succ])
                 go_cut [] (fun wc => ∃ (kq : Nat), Aside0 (laws_FnExactInvariantFactors.j8 kq t582 t592 = some r) ∧ Aside0 (kq ≤ kj42) ∧ Aside0 (Below w.heap.size w wc))
                 case first =>
                  have H := HC50.out
                  clear HC50
                  by_cases c51 : t592 < 0
                  ·rw [if_pos c51] at H
                   have c51b0 : decide (t592 < 0) = true := decide_eq_true c51
                   clear c51
                   (first | rw [c51b0] | (simp only [i64_w, i32_w]; rw [c51b0]) | skip)
                   obtain rfl := Option.some.inj H
                   go_wp2
                   go_ret
                   exact ⟨by first | rfl | (simp [errW_none, errW_some] <;> rfl) | (simp [*, errW_none, errW_some] <;> rfl), by exact Lz HB⟩
                  rw [if_neg c51] at H
                  have c51b0 : decide (t592 < 0) = false := decide_eq_false c51
                  clear c51
                  (first | rw [c51b0] | (simp only [i64_w, i32_w]; rw [c51b0]) | skip)
                  have H' := Aside0.mk H
                  clear H
                  go_wp2
                  go_meet
                  case rel => exact ⟨_, H', ⟨by have := HJ2.out; have := HJ9.out; have := HJ21.out; have := HJ26.out; have := HJ30.out; have := HJ34.out; have := HJ37.out; have := HJ42.out; first | omega | exact Nat.le_refl _⟩, ⟨by exact Lz HB⟩⟩
                 case rest =>
                  clear HC50
                  try clear c4
                  try clear c4b0
                  try clear c19
                  try clear c25
                  try clear c29
                  try clear c29b0
                  try clear c32
                  try clear c37
                  try clear c37b0
                  try clear c39
                  try clear c39b0
                  try clear c39b1
                  try clear c48
                  try clear c51
                  try clear c51b0
                  obtain ⟨kq, HA, HJ49, HB⟩ := hcut
                  cases kq with
                  | zero => exact absurd HA.out (by simp [laws_FnExactInvariantFactors.j8])
                  | succ kj49 =>
                   have H := HA.out
                   clear HA
                   simp only [laws_FnExactInvariantFactors.j8] at H
                   by_cases c52 : t592 = t582
                   ·rw [if_pos c52] at H
                    have c52b0 : (t592 == t582) = true := beq_iff_eq.mpr c52
                    have c52b1 : (t592 != t582) = false := bne_eq_false_iff_eq.mpr c52
                    clear c52
                    obtain rfl := Option.some.inj H
                    go_wp2
                    go_ret
                    exact ⟨by first | rfl | (simp [errW_none, errW_some] <;> rfl) | (simp [*, errW_none, errW_some] <;> rfl), by exact Lz HB⟩
                   rw [if_neg c52] at H
                   have c52b0 : (t592 == t582) = false := beq_eq_false_iff_ne.mpr c52
                   have c52b1 : (t592 != t582) = true := bne_iff_ne.mpr c52
                   obtain rfl := Option.some.inj H
                   go_wp2
                   go_ret
                   exact ⟨by first | rfl | (simp [errW_none, errW_some] <;> rfl) | (simp [*, errW_none, errW_some] <;> rfl), by exact Lz HB⟩
end Go.Proofs.Ytplcclifmajcfaa.P
end
section
namespace Go.Proofs.Ytplcclifmajcfaa.Pure
open Go.RowKit Go.Proofs.Ytplcclifmajcfaa.P Go.Proofs.YtplcclifmajcfaaW.PrintWords Go.Proofs.YtplcclifmajcfaaW.PrintLast Go.Proofs.YtplcclifmajcfaaW.PrintMore
def StatFnExactInvariantFactors : Prop := ∀ (l0 : List (List (Int))), (l0.length ≤ maxLen ∧ ∀ x2 ∈ l0, x2.length ≤ maxLen ∧ ∀ x2_ ∈ x2, (Lit.int .i64 x2_).wf = true) → ∃ k, laws_FnExactInvariantFactors.f k l0 = some true
end Go.Proofs.Ytplcclifmajcfaa.Pure
end
section
set_option linter.unusedVariables false
set_option linter.unusedSimpArgs false
namespace Go.Proofs.Ytplcclifmajcfaa.Pure
open Go.RowKit Go.Proofs.Ytplcclifmajcfaa.P Go.Proofs.YtplcclifmajcfaaW.PrintWords Go.Proofs.YtplcclifmajcfaaW.PrintLast Go.Proofs.YtplcclifmajcfaaW.PrintMore Go.Proofs.Ytplcclifmajcfaa.Base Go.Proofs.Ytplcclifmajcfaa.Minor Go.Proofs.Ytplcclifmajcfaa.Det Go.Proofs.Ytplcclifmajcfaa.Loops Go.Proofs.Ytplcclifmajcfaa.Bits
theorem mx_abs (a : Int) (h : a.natAbs < 9223372036854775808) : mx a (wrap64 (-a)) = (a.natAbs : Int) := by
  unfold mx wrap64
  split <;> omega
theorem tmod_abs (a b : Nat) : Int.tmod (a : Int) (b : Int) = ((a % b : Nat) : Int) := by
  rw [Int.ofNat_tmod]
theorem gcd_turn (a b : Nat) : Nat.gcd a b = Nat.gcd b (a % b) := by
  rw [Nat.gcd_comm, Nat.gcd_rec, Nat.gcd_comm]
theorem specGcd0 : ∀ b a : Nat, Ev (fun k => spec_l03Gcd.l0 k (a : Int) (b : Int)) ((Nat.gcd a b : Nat) : Int) := by
  intro b
  induction b using Nat.strongRecOn with
  | _ b ih =>
    intro a
    refine ev_succ ?_
    simp only [spec_l03Gcd.l0]
    by_cases h : b = 0
    · subst h
      rw [Nat.gcd_zero_right]
      exact ev_ift rfl (Ev.now _)
    · rw [tmod_abs, gcd_turn]
      exact ev_ifn (by omega) (ih (a % b) (Nat.mod_lt _ (by omega)) b)
theorem specGcd_ev (a b : Int) (ha : a.natAbs < 9223372036854775808) (hb : b.natAbs < 9223372036854775808) : Ev (fun k => spec_l03Gcd.f k a b) ((Nat.gcd a.natAbs b.natAbs : Nat) : Int) := by
  simp only [spec_l03Gcd.f, mx_abs a ha, mx_abs b hb]
  exact specGcd0 _ _
theorem implGcd0 : ∀ (N : Nat) (a b : Int), b.natAbs = N → a.natAbs < 9223372036854775808 → b.natAbs < 9223372036854775808 → Ev (fun k => impl_divisor.l0 k a b) ((Nat.gcd a.natAbs b.natAbs : Nat) : Int) := by
  intro N
  induction N using Nat.strongRecOn with
  | _ N ih =>
    intro a b hN ha hb
    refine ev_succ ?_
    simp only [impl_divisor.l0, impl_magnitude.f, mx_abs a ha, Option.bind_some]
    by_cases h : b = 0
    · subst h
      simp only [Int.natAbs_zero, Nat.gcd_zero_right]
      exact ev_ift trivial (Ev.now _)
    · rw [gcd_turn, ← Int.natAbs_tmod]
      have hm : (Int.tmod a b).natAbs < b.natAbs := by rw [Int.natAbs_tmod]; exact Nat.mod_lt _ (by omega)
      exact ev_ifn h (ih (Int.tmod a b).natAbs (by omega) b (Int.tmod a b) rfl hb (by omega))
theorem implGcd_ev (a b : Int) (ha : a.natAbs < 9223372036854775808) (hb : b.natAbs < 9223372036854775808) : Ev (fun k => impl_divisor.f k a b) ((Nat.gcd a.natAbs b.natAbs : Nat) : Int) := by
  simp only [impl_divisor.f]
  exact implGcd0 _ a b rfl ha hb
theorem rd_mem {l : List Int} {i : Nat} (h : i < l.length) : rd l (i : Int) ∈ l := by
  unfold rd
  rw [Int.toNat_natCast, List.getD_eq_getElem?_getD, List.getElem?_eq_getElem h]
  exact List.getElem_mem h
theorem nextOf_nil {s : List Int} (h : s.length = 0) : nextOf s = 0 := by simp [nextOf, h]
theorem nextOf_eq {s : List Int} {n : Nat} (hn : n ≤ 6) (hs : 0 < s.length) (hm : ∀ c ∈ s, 0 ≤ c ∧ c < (n : Int)) : wrap64 (rd s ((s.length : Int) - 1) + 1) = (nextOf s : Int) ∧ nextOf s ≤ n := by
  have h1 := hm _ (rd_mem (l := s) (i := s.length - 1) (by omega))
  have e : ((s.length - 1 : Nat) : Int) = (s.length : Int) - 1 := by omega
  rw [e] at h1
  unfold nextOf
  rw [if_neg (by omega)]
  refine ⟨?_, by omega⟩
  unfold wrap64
  omega
theorem setsI (n : Nat) (hn : n ≤ 6) (xs : List (List Int)) (s : List Int) (i : Nat) (hs : xs.getD i [] = s) (r : List (List Int)) :
    ∀ (d x : Nat) (acc : List (List Int)), x + d = n → acc.length + d ≤ 1000 → Ev (fun k => spec_l03Sets.l0 k (n : Int) xs (wrap64 ((i : Int) + 1)) (acc ++ (List.range' x d).map fun j : Nat => s ++ [(j : Int)])) r →
      Ev (fun k => spec_l03Sets.l1 k (n : Int) xs (i : Int) (x : Int) acc) r := by
  intro d
  induction d with
  | zero =>
    intro x acc hx hl h
    refine ev_succ ?_
    simp only [spec_l03Sets.l1]
    refine ev_ifn (by omega) ?_
    simpa using h
  | succ d ih =>
    intro x acc hx hl h
    have h1 := ih (x + 1) (acc ++ [s ++ [(x : Int)]]) (by omega) (by simp; omega) (by rw [List.range'_succ] at h; simpa using h)
    refine ev_succ ?_
    simp only [spec_l03Sets.l1, Int.toNat_natCast, hs, wrap_succ (show x < 4611686018427387904 by omega)]
    exact ev_ift (by omega) (ev_ift (by omega) h1)
theorem setsO (n : Nat) (hn : n ≤ 6) (xs : List (List Int)) (hx : ∀ s ∈ xs, s.length ≤ 6 ∧ ∀ c ∈ s, 0 ≤ c ∧ c < (n : Int)) (hl : xs.length ≤ 20) :
    ∀ (rest : List (List Int)) (i : Nat) (acc : List (List Int)), xs.drop i = rest → i ≤ xs.length → (acc.length ≤ 6 * i) → Ev (fun k => spec_l03Sets.l0 k (n : Int) xs (i : Int) acc) (acc ++ rest.flatMap (ext n)) := by
  intro rest
  induction rest with
  | nil =>
    intro i acc hd hi ha
    have := drop_nil hd
    refine ev_succ ?_
    simp only [spec_l03Sets.l0, List.flatMap_nil, List.append_nil]
    exact ev_ifn (by omega) (Ev.now _)
  | cons s rest ih =>
    intro i acc hd hi ha
    have hlt := drop_lt hd
    have hm : s ∈ xs := List.mem_of_mem_drop (by rw [hd]; exact List.mem_cons_self)
    obtain ⟨s6, sm⟩ := hx s hm
    have hg : xs.getD i [] = s := get_drop hd _
    have hN : nextOf s ≤ n := by
      rcases Nat.eq_zero_or_pos s.length with h | h
      · rw [nextOf_nil h]; omega
      · exact (nextOf_eq hn h sm).2
    have h1 := ih (i + 1) (acc ++ ext n s) (drop_next hd) (by omega) (by simp [ext]; omega)
    rw [← wrap_succ (show i < 4611686018427387904 by omega)] at h1
    have h2 := setsI n hn xs s i hg (acc ++ (s :: rest).flatMap (ext n)) (n - nextOf s) (nextOf s) acc (by omega) (by omega) (by
      rw [List.flatMap_cons, ← List.append_assoc]
      exact h1)
    refine ev_succ ?_
    simp only [spec_l03Sets.l0, Int.toNat_natCast, hg]
    refine ev_ift (by omega) (ev_ift (by omega) (ev_ift (by omega) ?_))
    rcases Nat.eq_zero_or_pos s.length with h | h
    · rw [nextOf_nil h] at h2
      exact ev_ifn (by omega) h2
    · rw [(nextOf_eq hn h sm).1]
      exact ev_ift (by omega) h2
theorem specSets_ev (n : Nat) (hn : n ≤ 6) : ∀ k : Nat, k ≤ 6 → Ev (fun f => spec_l03Sets.f f (n : Int) (k : Int)) (setsL n k) := by
  intro k
  induction k with
  | zero =>
    intro _
    refine ev_succ ?_
    simp only [spec_l03Sets.f, setsL]
    exact ev_ift rfl (Ev.now _)
  | succ k ih =>
    intro hk
    have ew : wrap64 (((k + 1 : Nat) : Int) - 1) = (k : Int) := by unfold wrap64; omega
    obtain ⟨f0, f1, _⟩ := sets_facts n k hn (by omega)
    refine ev_succ ?_
    simp only [spec_l03Sets.f, ew]
    refine ev_ifn (by omega) (Ev.bind (ih (by omega)) ?_)
    have := setsO n hn (setsL n k) (fun s hs => ⟨by have := (f1 s hs).1; omega, (f1 s hs).2.1⟩) f0 (setsL n k) 0 [] rfl (by omega) (by simp)
    simpa [setsL] using this
end Go.Proofs.Ytplcclifmajcfaa.Pure
end
section
set_option linter.unusedVariables false
set_option linter.unusedSimpArgs false
namespace Go.Proofs.Ytplcclifmajcfaa.Pure
open Go.RowKit Go.Proofs.Ytplcclifmajcfaa.P Go.Proofs.YtplcclifmajcfaaW.PrintWords Go.Proofs.YtplcclifmajcfaaW.PrintLast Go.Proofs.YtplcclifmajcfaaW.PrintMore Go.Proofs.Ytplcclifmajcfaa.Base Go.Proofs.Ytplcclifmajcfaa.Loops
theorem toIntS_l0 (l : List Int) (hl : l.length < 4611686018427387904) : ∀ (d k i : Nat) (x : List Int), i + d = l.length → x.length = l.length → x.take i = l.take i → d < k → laws_toIntS.l0 k l x (i : Int) = some l := by
  intro d
  induction d with
  | zero =>
    intro k i x hi hx ht hk
    obtain ⟨k, rfl⟩ := succ_of_lt hk
    simp only [laws_toIntS.l0]
    rw [if_neg (by omega)]
    rw [List.take_of_length_le (by omega), List.take_of_length_le (by omega)] at ht
    rw [ht]
  | succ d ih =>
    intro k i x hi hx ht hk
    obtain ⟨k, rfl⟩ := succ_of_lt hk
    simp only [laws_toIntS.l0]
    rw [if_pos (by omega), if_pos (by omega), if_pos (by omega), wrap_succ (by omega), rd_nat l i (by omega), Int.toNat_natCast]
    refine ih k (i + 1) _ (by omega) (by simpa using hx) ?_ (by omega)
    rw [List.take_succ_eq_append_getElem (by simp; omega), List.take_succ_eq_append_getElem (by omega), List.take_set_of_le (Nat.le_refl _), ht]
    simp
theorem toIntS_ev (l : List Int) (hl : l.length ≤ 1048576) : Ev (fun k => laws_toIntS.f k l) l := by
  refine ev_k l.length fun k hk => ?_
  unfold laws_toIntS.f
  rw [if_pos (by omega), if_pos (by omega)]
  exact toIntS_l0 l (by omega) l.length k 0 _ (by omega) (by simp) (by simp) hk
theorem eqIntS_l0 (l : List Int) (hl : l.length < 4611686018427387904) : ∀ (d k i : Nat), i + d = l.length → d < k → laws_eqIntS.l0 k l l (i : Int) = some true := by
  intro d
  induction d with
  | zero =>
    intro k i hi hk
    obtain ⟨k, rfl⟩ := succ_of_lt hk
    simp only [laws_eqIntS.l0]
    rw [if_neg (by omega)]
  | succ d ih =>
    intro k i hi hk
    obtain ⟨k, rfl⟩ := succ_of_lt hk
    simp only [laws_eqIntS.l0]
    rw [if_pos (by omega), if_pos (by omega), if_pos (by omega), wrap_succ (by omega)]
    exact ih k (i + 1) (by omega) (by omega)
theorem eqIntS_ev (l : List Int) (hl : l.length < 4611686018427387904) : Ev (fun k => laws_eqIntS.f k l l) true := by
  refine ev_k l.length fun k hk => ?_
  unfold laws_eqIntS.f
  simp only [if_true]
  exact eqIntS_l0 l hl l.length k 0 (by omega) hk
end Go.Proofs.Ytplcclifmajcfaa.Pure
end
section
set_option linter.unusedVariables false
set_option linter.unusedSimpArgs false
namespace Go.Proofs.Ytplcclifmajcfaa.Pure
open Go.RowKit Go.Proofs.Ytplcclifmajcfaa.P Go.Proofs.YtplcclifmajcfaaW.PrintWords Go.Proofs.YtplcclifmajcfaaW.PrintLast Go.Proofs.YtplcclifmajcfaaW.PrintMore Go.Proofs.Ytplcclifmajcfaa.Base Go.Proofs.Ytplcclifmajcfaa.Bits Go.Proofs.Ytplcclifmajcfaa.Loops
theorem within_eq (a b c : Int) : impl_within.f a b c = some (decide (b ≤ a ∧ a ≤ c)) := by
  unfold impl_within.f
  by_cases h : a ≥ b
  · rw [if_pos h]; simp; omega
  · rw [if_neg h]; simp; omega
theorem in_eq (a b c : Int) : spec_l01In.f a b c = some (decide (b ≤ a ∧ a ≤ c)) := by
  unfold spec_l01In.f
  by_cases h : a ≥ b
  · rw [if_pos h]; simp; omega
  · rw [if_neg h]; simp; omega
def allB (l : List Int) (lo hi : Int) : Bool := l.all fun x => decide (lo ≤ x ∧ x ≤ hi)
theorem allWithin_ev (l : List Int) (lo hi : Int) (hl : l.length < 4611686018427387904) : Ev (fun k => impl_allWithin.f k l lo hi) (allB l lo hi) := by
  simp only [impl_allWithin.f]
  refine ev_list0 l (fun k (_ : Unit) i => impl_allWithin.l0 k lo hi l (l.length : Int) i) (fun _ r => allB r lo hi) (fun _ _ => True) (fun s _ => ev1 fun k => ?_) (fun s a rest i hlt hd _ => ?_) () trivial
  · simp only [impl_allWithin.l0]
    rw [if_neg (by omega)]; rfl
  · by_cases h : lo ≤ a ∧ a ≤ hi
    · refine Or.inr ⟨(), trivial, by simp [allB, h], 0, fun k _ => ?_⟩
      simp only [impl_allWithin.l0, rd_drop hd, within_eq, Option.bind_some]
      rw [if_pos (by omega), if_pos (by omega), if_pos (by omega), if_pos (by simp [h]), wrap_succ (by omega)]
    · refine Or.inl (ev1 fun k => ?_)
      simp only [impl_allWithin.l0, rd_drop hd, within_eq, Option.bind_some]
      rw [if_pos (by omega), if_pos (by omega), if_pos (by omega), if_neg (by simpa using h)]
      simp [allB, h]
theorem rdL_drop {l : List (List Int)} {i : Nat} {a : List Int} {r : List (List Int)} (h : l.drop i = a :: r) : rd_L4 l (i : Int) = a := by
  unfold rd_L4
  rw [Int.toNat_natCast]
  exact get_drop h []
def rowB (n : Nat) (r : List Int) : Bool := decide (r.length = n) && allB r (-500) 500
def matB (m : List (List Int)) : Bool := decide (m.length ≤ 6) && m.all (rowB m.length)
theorem implMat_ev (m : List (List Int)) (hl : m.length < 4611686018427387904) (hr : ∀ r ∈ m, r.length < 4611686018427387904) : Ev (fun k => impl_MatrixOk.f k m) (matB m) := by
  simp only [impl_MatrixOk.f, matB]
  by_cases h6 : m.length ≤ 6
  · rw [decide_eq_true h6, Bool.true_and]
    refine ev_ifn (by omega) ?_
    refine ev_listE m (fun k (_ : Unit) i => impl_MatrixOk.l0 k m m (m.length : Int) i) (fun _ r => r.all (rowB m.length)) (fun _ _ => True) (fun s _ => ev_succ ?_) (fun s a rest i hlt hd _ => ?_) () trivial
    · simp only [impl_MatrixOk.l0]
      exact ev_ifn (by omega) (Ev.now _)
    · have ha : a ∈ m := List.mem_of_mem_drop (by rw [hd]; exact List.mem_cons_self)
      have aw := allWithin_ev a (-500) 500 (hr a ha)
      by_cases c : a.length = m.length
      · cases e : allB a (-500) 500 with
        | true =>
          rw [e] at aw
          refine Or.inr ⟨(), trivial, by simp [rowB, c, e], fun r h => ev_succ ?_⟩
          simp only [impl_MatrixOk.l0, rdL_drop hd, wrap_succ (show i < 4611686018427387904 by omega)]
          exact ev_ift (by omega) (ev_ift (by omega) (ev_ift (by omega) (ev_ift (by omega) (Ev.bind aw (ev_ift rfl h)))))
        | false =>
          rw [e] at aw
          refine Or.inl (ev_succ ?_)
          rw [show (a :: rest).all (rowB m.length) = false by simp [rowB, e]]
          simp only [impl_MatrixOk.l0, rdL_drop hd]
          exact ev_ift (by omega) (ev_ift (by omega) (ev_ift (by omega) (ev_ift (by omega) (Ev.bind aw (ev_iff (Ev.now _))))))
      · refine Or.inl (ev_succ ?_)
        rw [show (a :: rest).all (rowB m.length) = false by simp [rowB, c]]
        simp only [impl_MatrixOk.l0, rdL_drop hd]
        exact ev_ift (by omega) (ev_ift (by omega) (ev_ift (by omega) (ev_ifn (by omega) (Ev.now _))))
  · rw [decide_eq_false h6, Bool.false_and]
    exact ev_ift (by omega) (Ev.now _)
theorem specRow_ev (m : List (List Int)) (a : List Int) (ha : a.length < 4611686018427387904) (i : Int) (q : Bool) (hq : Ev (fun k => spec_MatrixOk.l0 k m m (m.length : Int) (wrap64 (i + 1))) q) :
    Ev (fun k => spec_MatrixOk.l1 k m m (m.length : Int) i a (a.length : Int) 0) (allB a (-500) 500 && q) := by
  refine ev_listE a (fun k (_ : Unit) j => spec_MatrixOk.l1 k m m (m.length : Int) i a (a.length : Int) j) (fun _ r => allB r (-500) 500 && q) (fun _ _ => True) (fun s _ => ev_succ ?_) (fun s x rest j hlt hd _ => ?_) () trivial
  · simp only [spec_MatrixOk.l1]
    exact ev_ifn (by omega) (by simpa [allB] using hq)
  · by_cases c : -500 ≤ x ∧ x ≤ 500
    · refine Or.inr ⟨(), trivial, by simp [allB, c], fun r h => ev_succ ?_⟩
      simp only [spec_MatrixOk.l1, rd_drop hd, in_eq, Option.bind_some, wrap_succ (show j < 4611686018427387904 by omega), decide_eq_true c]
      exact ev_ift (by omega) (ev_ift (by omega) (ev_ift (by omega) (ev_ift trivial h)))
    · refine Or.inl (ev_succ ?_)
      rw [show (allB (x :: rest) (-500) 500 && q) = false by simp [allB]; intro h1 h2; omega]
      simp only [spec_MatrixOk.l1, rd_drop hd, in_eq, Option.bind_some, decide_eq_false c]
      exact ev_ift (by omega) (ev_ift (by omega) (ev_ift (by omega) (ev_ifn (by simp) (Ev.now _))))
theorem specMat_ev (m : List (List Int)) (hl : m.length < 4611686018427387904) (hr : ∀ r ∈ m, r.length < 4611686018427387904) : Ev (fun k => spec_MatrixOk.f k m) (matB m) := by
  simp only [spec_MatrixOk.f, matB]
  by_cases h6 : m.length ≤ 6
  · rw [decide_eq_true h6, Bool.true_and]
    refine ev_ifn (by omega) ?_
    have main : ∀ (rest : List (List Int)) (i : Nat), i ≤ m.length → m.drop i = rest → Ev (fun k => spec_MatrixOk.l0 k m m (m.length : Int) (i : Int)) (rest.all (rowB m.length)) := by
      intro rest
      induction rest with
      | nil =>
        intro i hi hd
        have := drop_nil hd
        obtain rfl : i = m.length := by omega
        refine ev_succ ?_
        simp only [spec_MatrixOk.l0]
        exact ev_ifn (by omega) (Ev.now _)
      | cons a rest ih =>
        intro i hi hd
        have hlt := drop_lt hd
        have ha : a ∈ m := List.mem_of_mem_drop (by rw [hd]; exact List.mem_cons_self)
        have h1 := ih (i + 1) (by omega) (drop_next hd)
        rw [← wrap_succ (show i < 4611686018427387904 by omega)] at h1
        have h2 := specRow_ev m a (hr a ha) (i : Int) _ h1
        refine ev_succ ?_
        simp only [spec_MatrixOk.l0, rdL_drop hd]
        by_cases c : a.length = m.length
        · rw [show (a :: rest).all (rowB m.length) = (allB a (-500) 500 && rest.all (rowB m.length)) by simp [rowB, c]]
          exact ev_ift (by omega) (ev_ift (by omega) (ev_ift (by omega) (ev_ift (by omega) h2)))
        · rw [show (a :: rest).all (rowB m.length) = false by simp [rowB, c]]
          exact ev_ift (by omega) (ev_ift (by omega) (ev_ift (by omega) (ev_ifn (by omega) (Ev.now _))))
    exact main m 0 (by omega) rfl
  · rw [decide_eq_false h6, Bool.false_and]
    exact ev_ift (by omega) (Ev.now _)
theorem matB_facts {m : List (List Int)} (h : matB m = true) : m.length ≤ 6 ∧ ∀ r ∈ m, r.length = m.length ∧ ∀ x ∈ r, -500 ≤ x ∧ x ≤ 500 := by
  simp only [matB, rowB, allB, Bool.and_eq_true, decide_eq_true_eq, List.all_eq_true] at h
  exact h
end Go.Proofs.Ytplcclifmajcfaa.Pure
end
section
set_option linter.unusedVariables false
set_option linter.unusedSimpArgs false
namespace Go.Proofs.Ytplcclifmajcfaa.Pure
open Go.RowKit Go.Proofs.Ytplcclifmajcfaa.P Go.Proofs.YtplcclifmajcfaaW.PrintWords Go.Proofs.YtplcclifmajcfaaW.PrintLast Go.Proofs.YtplcclifmajcfaaW.PrintMore Go.Proofs.Ytplcclifmajcfaa.Base Go.Proofs.Ytplcclifmajcfaa.Det Go.Proofs.Ytplcclifmajcfaa.Bits Go.Proofs.Ytplcclifmajcfaa.Loops
def rowX (m : List (List Int)) (r c : Int) : Int := rd (rd_L4 m r) c
theorem specDet_ev (m : List (List Int)) (n : Nat) (hn : n ≤ 6) (hm : m.length = n) (hr : ∀ r : Int, 0 ≤ r → r < n → (rd_L4 m r).length = n) :
    ∀ (R C : List Int), (∀ r ∈ R, 0 ≤ r ∧ r < n) → (∀ c ∈ C, 0 ≤ c ∧ c < n) → R.length < 1000 → C.length < 1000 → Ev (fun k => spec_l03Det.f k m R C) (dF (rowX m) R C) := by
  intro R
  induction R with
  | nil =>
    intro C _ _ _ _
    refine ev_succ ?_
    simp only [spec_l03Det.f]
    exact ev_ift (by rfl) (Ev.now _)
  | cons r R ih =>
    intro C hR hC hl hc
    obtain ⟨r0, r1⟩ := hR r List.mem_cons_self
    have e0 : rd (r :: R) 0 = r := rfl
    have hrow := hr r r0 r1
    have main : ∀ (post pre : List Int) (s g : Int), pre ++ post = C → Ev (fun k => spec_l03Det.l0 k m (r :: R) C s g C (C.length : Int) (pre.length : Int)) (dLoop (rowX m r) (dF (rowX m) R) pre post s g) := by
      intro post
      induction post with
      | nil =>
        intro pre s g hp
        have : pre.length = C.length := by rw [← hp]; simp
        refine ev_succ ?_
        simp only [spec_l03Det.l0, dLoop]
        exact ev_ifn (by omega) (Ev.now _)
      | cons c post ihp =>
        intro pre s g hp
        have hlen : pre.length + (post.length + 1) = C.length := by rw [← hp]; simp
        have hd : C.drop pre.length = c :: post := by rw [← hp]; simp
        have ht : C.take pre.length = pre := by rw [← hp]; simp
        have hd1 : C.drop (pre.length + 1) = post := drop_next hd
        have hcm := hC c (by rw [← hp]; simp)
        have h1 := fun s' g' => ihp (pre ++ [c]) s' g' (by rw [← hp]; simp)
        simp only [List.length_append, List.length_cons, List.length_nil, Nat.zero_add] at h1
        refine ev_succ ?_
        simp only [spec_l03Det.l0, dLoop, e0, rd_drop hd, wrap_succ (show pre.length < 4611686018427387904 by omega), Int.toNat_natCast, ht, hd1, Option.bind_some, List.nil_append, List.drop_succ_cons, List.drop_zero]
        refine ev_ift (by omega) (ev_ift (by omega) (ev_ift (by omega) (ev_ift (by simp only [List.length_cons]; omega) (ev_ift (by omega) (ev_ift (by omega) (ev_ift (by omega) (ev_ift (by omega) ?_)))))))
        by_cases hx : rowX m r c = 0
        · rw [if_pos hx]
          exact ev_ift hx (h1 _ _)
        · rw [if_neg hx]
          refine ev_ifn hx (ev_ift (by omega) (ev_ift (by first | omega | (simp; omega) | simp) (ev_ift (by omega) (ev_ift (by omega) (ev_ift (by omega) (ev_ift (by simp only [List.length_cons]; omega) ?_))))))
          exact Ev.bind (ih (pre ++ post) (fun r' hr' => hR r' (List.mem_cons_of_mem _ hr')) (fun c' hc' => hC c' (by rw [← hp]; simp only [List.mem_append, List.mem_cons] at hc' ⊢; rcases hc' with h | h; exact Or.inl h; exact Or.inr (Or.inr h))) (by simp only [List.length_cons] at hl; omega) (by simp only [List.length_append]; omega)) (h1 _ _)
    refine ev_succ ?_
    simp only [spec_l03Det.f]
    refine ev_ifn (by simp only [List.length_cons]; omega) ?_
    exact main C [] 0 1 rfl
theorem implDet_ev (m : List (List Int)) (n : Nat) (hn : n ≤ 6) (hm : m.length = n) (hr : ∀ r : Int, 0 ≤ r → r < n → (rd_L4 m r).length = n) :
    ∀ (R : List Int) (S : Nat), (∀ r ∈ R, 0 ≤ r ∧ r < n) → S < 64 → R.length < 1000 → Ev (fun k => impl_determinant.f k m R (S : Int)) (dF (rowX m) R (colsR S 0 n)) := by
  intro R
  induction R with
  | nil =>
    intro S _ _ _
    refine ev_succ ?_
    simp only [impl_determinant.f]
    exact ev_ift (by rfl) (Ev.now _)
  | cons r R ih =>
    intro S hR hS hl
    obtain ⟨r0, r1⟩ := hR r List.mem_cons_self
    have e0 : rd (r :: R) 0 = r := rfl
    have hrow := hr r r0 r1
    have main : ∀ (d j : Nat) (s g : Int), j + d = n → Ev (fun k => impl_determinant.l0 k m (r :: R) (S : Int) s g (rd_L4 m r) ((rd_L4 m r).length : Int) (j : Int)) (dLoop (rowX m r) (dF (rowX m) R) (colsR S 0 j) (colsR S j d) s g) := by
      intro d
      induction d with
      | zero =>
        intro j s g hj
        refine ev_succ ?_
        simp only [impl_determinant.l0, colsR_zero, dLoop]
        exact ev_ifn (by omega) (Ev.now _)
      | succ d ihd =>
        intro j s g hj
        have h1 := fun s' g' => ihd (j + 1) s' g' (by omega)
        refine ev_succ ?_
        rw [colsR_succ]
        simp only [impl_determinant.l0, wrap_succ (show j < 4611686018427387904 by omega), bit_of S j (by omega) (by omega), andNot_clr S j hS (by omega), List.drop_succ_cons, List.drop_zero]
        refine ev_ift (by omega) (ev_ift (by omega) (ev_ift (by omega) ?_))
        rw [colsR_snoc] at h1
        by_cases hb : S.testBit j = true
        · rw [if_pos hb] at h1 ⊢
          rw [if_pos hb]
          refine ev_ifn (by omega) ?_
          rw [List.singleton_append]
          simp only [dLoop]
          by_cases hx : rowX m r (j : Int) = 0
          · rw [if_pos hx]
            exact ev_ift hx (h1 _ _)
          · rw [if_neg hx]
            refine ev_ifn hx (ev_ift (by simp only [List.length_cons]; omega) ?_)
            have h2 := ih (clr S j) (fun r' hr' => hR r' (List.mem_cons_of_mem _ hr')) (clr_lt S j hS) (by simp only [List.length_cons] at hl; omega)
            rw [show n = j + 1 + d by omega, colsR_clr S j d hS (by omega)] at h2
            exact Ev.bind h2 (h1 _ _)
        · rw [if_neg hb] at h1 ⊢
          rw [if_neg hb]
          rw [List.append_nil] at h1
          exact ev_ift rfl (h1 _ _)
    refine ev_succ ?_
    simp only [impl_determinant.f, e0]
    refine ev_ifn (by simp only [List.length_cons]; omega) (ev_ift (by simp only [List.length_cons]; omega) (ev_ift (by omega) (ev_ift (by omega) ?_)))
    exact main n 0 0 1 (by omega)
theorem bits_none {S i : Nat} (h : S / 2 ^ i = 0) (d : Nat) : colsR S i d = [] := by
  unfold colsR
  rw [List.map_eq_nil_iff, List.filter_eq_nil_iff]
  intro j hj
  rw [List.mem_range'_1] at hj
  have hlt : S < 2 ^ i := by
    rcases Nat.lt_or_ge S (2 ^ i) with h' | h'
    · exact h'
    · have := Nat.div_pos h' (Nat.two_pow_pos i); omega
  simp [Nat.testBit_lt_two_pow (Nat.lt_of_lt_of_le hlt (Nat.pow_le_pow_right (by decide) hj.1))]
theorem bitsOf_ev (S : Nat) (hS : S < 64) : Ev (fun k => impl_bitsOf.f k (S : Int)) (colsR S 0 6) := by
  have main : ∀ (d i : Nat), i + d = 6 → Ev (fun k => impl_bitsOf.l0 k (S : Int) (colsR S 0 i) (i : Int)) (colsR S 0 6) := by
    intro d
    induction d with
    | zero =>
      intro i hi
      obtain rfl : i = 6 := by omega
      refine ev_succ ?_
      simp only [impl_bitsOf.l0, shr_nat S 6 (by omega)]
      have : S / 2 ^ 6 = 0 := Nat.div_eq_of_lt (by simpa using hS)
      exact ev_ift (by omega) (ev_ifn (by rw [this]; omega) (Ev.now _))
    | succ d ih =>
      intro i hi
      have h1 := ih (i + 1) (by omega)
      have hl := colsR_len S 0 i
      refine ev_succ ?_
      simp only [impl_bitsOf.l0, bit_of S i (by omega) (by omega), wrap_succ (show i < 4611686018427387904 by omega)]
      rw [shr_nat S i (by omega)]
      refine ev_ift (by omega) ?_
      by_cases hz : S / 2 ^ i = 0
      · have e : colsR S 0 6 = colsR S 0 i := by
          have := colsR_split S i (6 - i)
          rw [bits_none hz, List.append_nil] at this
          rw [← this]; congr 1; omega
        rw [e]
        exact ev_ifn (by rw [hz]; omega) (Ev.now _)
      · refine ev_ift (Int.natCast_pos.2 (Nat.pos_of_ne_zero hz)) ?_
        rw [colsR_snoc] at h1
        by_cases hb : S.testBit i = true
        · rw [if_pos hb] at h1 ⊢
          exact ev_ift rfl (ev_ift (by omega) h1)
        · rw [if_neg hb] at h1 ⊢
          rw [List.append_nil] at h1
          exact ev_ifn (by omega) h1
  exact main 6 0 (by omega)
theorem rowLen {m : List (List Int)} (h : matB m = true) (r : Int) (h0 : 0 ≤ r) (h1 : r < m.length) : (rd_L4 m r).length = m.length := by
  obtain ⟨_, hr⟩ := matB_facts h
  obtain ⟨i, rfl⟩ : ∃ i : Nat, r = i := ⟨r.toNat, by omega⟩
  have hi : i < m.length := by omega
  have : rd_L4 m (i : Int) = m[i] := by
    unfold rd_L4
    rw [Int.toNat_natCast, List.getD_eq_getElem?_getD, List.getElem?_eq_getElem hi]; rfl
  rw [this]
  exact (hr _ (List.getElem_mem hi)).1
end Go.Proofs.Ytplcclifmajcfaa.Pure
end
section
set_option linter.unusedVariables false
set_option linter.unusedSimpArgs false
namespace Go.Proofs.Ytplcclifmajcfaa.Pure
open Go.RowKit Go.Proofs.Ytplcclifmajcfaa.P Go.Proofs.YtplcclifmajcfaaW.PrintWords Go.Proofs.YtplcclifmajcfaaW.PrintLast Go.Proofs.YtplcclifmajcfaaW.PrintMore Go.Proofs.Ytplcclifmajcfaa.Base Go.Proofs.Ytplcclifmajcfaa.Minor Go.Proofs.Ytplcclifmajcfaa.Det Go.Proofs.Ytplcclifmajcfaa.Loops Go.Proofs.Ytplcclifmajcfaa.Bits
theorem rowX_bound {m : List (List Int)} (h : matB m = true) (r c : Int) (r0 : 0 ≤ r ∧ r < (m.length : Int)) (c0 : 0 ≤ c ∧ c < (m.length : Int)) : (rowX m r c).natAbs ≤ 500 := by
  obtain ⟨_, hr⟩ := matB_facts h
  obtain ⟨i, rfl⟩ : ∃ i : Nat, r = i := ⟨r.toNat, by omega⟩
  obtain ⟨j, rfl⟩ : ∃ j : Nat, c = j := ⟨c.toNat, by omega⟩
  have hi : i < m.length := by omega
  have e : rd_L4 m (i : Int) = m[i] := by
    unfold rd_L4
    rw [Int.toNat_natCast, List.getD_eq_getElem?_getD, List.getElem?_eq_getElem hi]; rfl
  unfold rowX
  rw [e]
  obtain ⟨hl, hx⟩ := hr _ (List.getElem_mem hi)
  have := hx _ (rd_mem (l := m[i]) (i := j) (by omega))
  omega
theorem minorB {m : List (List Int)} (h : matB m = true) {R C : List Int} (hl : R.length = C.length) (h6 : R.length ≤ 6) (hR : ∀ r ∈ R, 0 ≤ r ∧ r < (m.length : Int)) (hC : ∀ r ∈ C, 0 ≤ r ∧ r < (m.length : Int)) :
    dF (rowX m) R C = dZ (rowX m) R C ∧ (dF (rowX m) R C).natAbs < 9223372036854775808 := by
  obtain ⟨e, b⟩ := dF_eq (rowX m) (fun r => 0 ≤ r ∧ r < (m.length : Int)) (fun r => 0 ≤ r ∧ r < (m.length : Int)) (rowX_bound h) R C hl h6 hR hC
  refine ⟨e, ?_⟩
  rw [e]
  refine Nat.lt_of_le_of_lt b ?_
  have h : ∀ k : Fin 7, bd k.val < 9223372036854775808 := by decide
  exact h ⟨R.length, by omega⟩
theorem gk_lt {m : List (List Int)} (h : matB m = true) (k : Nat) (hk : k ≤ 6) : gk (rowX m) m.length k < 9223372036854775808 := by
  obtain ⟨h6, _⟩ := matB_facts h
  obtain ⟨_, f1, _⟩ := sets_facts m.length k h6 hk
  have : gk (rowX m) m.length k ≤ 9223372036854775807 := by
    refine gl_le fun x hx => ?_
    obtain ⟨R, hR, C, hC, rfl⟩ := mem_minors.1 hx
    have := (minorB h (by rw [(f1 R hR).1, (f1 C hC).1]) (by rw [(f1 R hR).1]; exact hk) (f1 R hR).2.1 (f1 C hC).2.1).2
    omega
  omega
theorem tdivN (a b : Nat) (h : a < 9223372036854775808) : wrap64 (Int.tdiv (a : Int) (b : Int)) = ((a / b : Nat) : Int) := by
  have e : Int.tdiv (a : Int) (b : Int) = ((a / b : Nat) : Int) := rfl
  rw [e]
  have := Nat.div_le_self a b
  generalize a / b = q at *
  unfold wrap64
  omega
theorem gk0 (row : Int → Int → Int) (n : Nat) : gk row n 0 = 1 := by
  simp [gk, minors, setsL, gl, dF]
def Seen (m : List (List Int)) (A B : Nat) (x : List Int) : Prop := x.length = m.length + 1 ∧ ∀ k, k ≤ m.length → ∃ g : Nat, g < 9223372036854775808 ∧ rd x (k : Int) = (g : Int) ∧
  ∀ d, d ∣ g ↔ ∀ a b, a < 2 ^ m.length → b < 2 ^ m.length → (a < A ∨ (a = A ∧ b < B)) → (colsR a 0 m.length).length = k → (colsR b 0 m.length).length = k → d ∣ (dF (rowX m) (colsR a 0 m.length) (colsR b 0 m.length)).natAbs
theorem rd_set (x : List Int) (i k : Nat) (v : Int) (hi : i < x.length) : rd (x.set i v) (k : Int) = if k = i then v else rd x (k : Int) := by
  unfold rd
  rw [Int.toNat_natCast, List.getD_eq_getElem?_getD, List.getD_eq_getElem?_getD, List.getElem?_set]
  by_cases h : i = k
  · subst h
    rw [if_pos rfl, if_pos hi, if_pos rfl]; rfl
  · rw [if_neg h, if_neg (by omega)]
section
variable {m : List (List Int)} (hm : matB m = true)
include hm
theorem specInv2 (S : List (List Int)) (k : Nat) (hk : k ≤ 6) (hS : ∀ s ∈ S, s.length = k ∧ ∀ c ∈ s, 0 ≤ c ∧ c < (m.length : Int)) (hSl : S.length ≤ 20) (out : List Int) (bef x5 : Int) (R : List Int) (hR : R ∈ S) (i : Nat) (r : List Int) :
    ∀ (rest : List (List Int)) (j g : Nat), S.drop j = rest → j ≤ S.length → g < 9223372036854775808 →
      Ev (fun f => spec_InvariantFactors.l1 f m out bef x5 ((gFold (fun C => (dF (rowX m) R C).natAbs) g rest : Nat) : Int) S S (S.length : Int) (wrap64 ((i : Int) + 1))) r →
      Ev (fun f => spec_InvariantFactors.l2 f m out bef x5 (g : Int) S R S (S.length : Int) (i : Int) S (S.length : Int) (j : Int)) r := by
  obtain ⟨h6, _⟩ := matB_facts hm
  intro rest
  induction rest with
  | nil =>
    intro j g hd hj hg h
    have := drop_nil hd
    refine ev_succ ?_
    simp only [spec_InvariantFactors.l2]
    exact ev_ifn (by omega) h
  | cons C rest ih =>
    intro j g hd hj hg h
    have hlt := drop_lt hd
    have hC : C ∈ S := List.mem_of_mem_drop (by rw [hd]; exact List.mem_cons_self)
    obtain ⟨lR, mR⟩ := hS R hR
    obtain ⟨lC, mC⟩ := hS C hC
    obtain ⟨_, hb⟩ := minorB hm (by rw [lR, lC]) (by omega) mR mC
    have hdet := specDet_ev m m.length h6 rfl (fun r a b => rowLen hm r a b) R C mR mC (by omega) (by omega)
    have hgcd := specGcd_ev (g : Int) (dF (rowX m) R C) (by omega) hb
    rw [Int.natAbs_natCast] at hgcd
    have h1 := ih (j + 1) (Nat.gcd g (dF (rowX m) R C).natAbs) (drop_next hd) (by omega) (gcd_lt hg hb) h
    rw [← wrap_succ (show j < 4611686018427387904 by omega)] at h1
    refine ev_succ ?_
    simp only [spec_InvariantFactors.l2, rdL_drop hd]
    exact ev_ift (by omega) (ev_ift (by omega) (ev_ift (by omega) (Ev.bind hdet (Ev.bind hgcd h1))))
theorem specInv1 (S : List (List Int)) (k : Nat) (hk : k ≤ 6) (hS : ∀ s ∈ S, s.length = k ∧ ∀ c ∈ s, 0 ≤ c ∧ c < (m.length : Int)) (hSl : S.length ≤ 20) (out : List Int) (bef x5 : Int) (r : List Int) :
    ∀ (rest : List (List Int)) (i g : Nat), S.drop i = rest → i ≤ S.length → g < 9223372036854775808 →
      Ev (fun f => spec_InvariantFactors.l1 f m out bef x5 ((gFold2 (fun R C => (dF (rowX m) R C).natAbs) S g rest : Nat) : Int) S S (S.length : Int) (S.length : Int)) r →
      Ev (fun f => spec_InvariantFactors.l1 f m out bef x5 (g : Int) S S (S.length : Int) (i : Int)) r := by
  intro rest
  induction rest with
  | nil =>
    intro i g hd hj hg h
    have := drop_nil hd
    obtain rfl : i = S.length := by omega
    exact h
  | cons R rest ih =>
    intro i g hd hj hg h
    have hlt := drop_lt hd
    have hR : R ∈ S := List.mem_of_mem_drop (by rw [hd]; exact List.mem_cons_self)
    obtain ⟨lR, mR⟩ := hS R hR
    have hg' : gFold (fun C => (dF (rowX m) R C).natAbs) g S < 9223372036854775808 := gFold_lt _ _ S g hg fun C hC => by
      obtain ⟨lC, mC⟩ := hS C hC
      exact (minorB hm (by rw [lR, lC]) (by omega) mR mC).2
    have h1 := ih (i + 1) _ (drop_next hd) (by omega) hg' h
    rw [← wrap_succ (show i < 4611686018427387904 by omega)] at h1
    have h2 := specInv2 hm S k hk hS hSl out bef x5 R hR i r S 0 g rfl (by omega) hg h1
    refine ev_succ ?_
    simp only [spec_InvariantFactors.l1, rdL_drop hd]
    exact ev_ift (by omega) (ev_ift (by omega) (ev_ift (by omega) h2))
theorem specInv0 : ∀ (d k : Nat), k + d = m.length → Ev (fun f => spec_InvariantFactors.l0 f m ((ifL (rowX m) m.length).take k) ((gk (rowX m) m.length k : Nat) : Int) ((k + 1 : Nat) : Int)) (ifL (rowX m) m.length) := by
  obtain ⟨h6, _⟩ := matB_facts hm
  intro d
  induction d with
  | zero =>
    intro k hk
    refine ev_succ ?_
    simp only [spec_InvariantFactors.l0]
    refine ev_ifn (by omega) ?_
    rw [List.take_of_length_le (by rw [ifL_len]; omega)]
    exact Ev.now _
  | succ d ih =>
    intro k hk
    have h1 := ih (k + 1) (by omega)
    obtain ⟨f0, f1, _⟩ := sets_facts m.length (k + 1) h6 (by omega)
    have hsets := specSets_ev m.length h6 (k + 1) (by omega)
    have hlt := gk_lt hm (k + 1) (by omega)
    rw [ifL_get _ _ _ (by omega), ← wrap_succ (show k + 1 < 4611686018427387904 by omega)] at h1
    refine ev_succ ?_
    simp only [spec_InvariantFactors.l0]
    refine ev_ift (by omega) (Ev.bind hsets ?_)
    refine specInv1 hm (setsL m.length (k + 1)) (k + 1) (by omega) (fun s hs => ⟨(f1 s hs).1, (f1 s hs).2.1⟩) f0 _ _ _ _ (setsL m.length (k + 1)) 0 0 rfl (by omega) (by omega) ?_
    rw [gk_fold]
    refine ev_succ ?_
    simp only [spec_InvariantFactors.l1]
    refine ev_ifn (by omega) ?_
    have hlen : ((ifL (rowX m) m.length).take k).length < 17592186044416 := by rw [List.length_take, ifL_len]; omega
    by_cases c0 : gk (rowX m) m.length k = 0
    · have c1 := gk_next h6 (by omega) c0
      rw [if_pos c1, c1] at h1
      rw [c0]
      exact ev_ift rfl (ev_ift hlen h1)
    · refine ev_ifn (by omega) ?_
      by_cases c1 : gk (rowX m) m.length (k + 1) = 0
      · rw [if_pos c1, c1] at h1
        rw [c1]
        exact ev_ift rfl (ev_ift hlen h1)
      · rw [if_neg c1] at h1
        rw [tdivN _ _ hlt]
        exact ev_ifn (by omega) (ev_ift hlen h1)
theorem specInv_ev (hl : m.length < 4611686018427387904) (hr : ∀ r ∈ m, r.length < 4611686018427387904) : Ev (fun f => spec_InvariantFactors.f f m) (ifL (rowX m) m.length) := by
  have h2 := specMat_ev m hl hr
  rw [hm] at h2
  have h := specInv0 hm m.length 0 (by omega)
  rw [gk0] at h
  simp only [spec_InvariantFactors.f]
  exact Ev.bind h2 (ev_ift rfl h)
theorem implInv1 (A : Nat) (hA : A < 2 ^ m.length) (r : List Int) (hnext : ∀ x, Seen m A (2 ^ m.length) x → Ev (fun f => impl_InvariantFactors.l0 f m x (wrap64 ((A : Int) + 1))) r) :
    ∀ (d B : Nat) (x : List Int), B + d = 2 ^ m.length → Seen m A B x → Ev (fun f => impl_InvariantFactors.l1 f m x (A : Int) (colsR A 0 m.length) (B : Int)) r := by
  obtain ⟨h6, _⟩ := matB_facts hm
  have h64 : 2 ^ m.length ≤ 64 := by have := Nat.pow_le_pow_right (n := 2) (by decide) h6; simpa using this
  intro d
  induction d with
  | zero =>
    intro B x hB hs
    obtain rfl : B = 2 ^ m.length := by omega
    refine ev_succ ?_
    simp only [impl_InvariantFactors.l1, shl_nat m.length (by omega)]
    exact ev_ifn (by omega) (hnext x hs)
  | succ d ih =>
    intro B x hB hs
    have hbits := bitsOf_ev B (by omega)
    rw [cols6 m.length B h6 (by omega)] at hbits
    have hAl := colsR_len A 0 m.length
    obtain ⟨xl, xg⟩ := hs
    refine ev_succ ?_
    simp only [impl_InvariantFactors.l1, shl_nat m.length (by omega), wrap_succ (show B < 4611686018427387904 by omega), Int.toNat_natCast]
    refine ev_ift (by omega) (Ev.bind hbits ?_)
    by_cases c : (colsR B 0 m.length).length = (colsR A 0 m.length).length
    · have mR : ∀ r ∈ colsR A 0 m.length, 0 ≤ r ∧ r < (m.length : Int) := fun r hr => by have := colsR_mem hr; omega
      have mC : ∀ r ∈ colsR B 0 m.length, 0 ≤ r ∧ r < (m.length : Int) := fun r hr => by have := colsR_mem hr; omega
      have hdet := implDet_ev m m.length h6 rfl (fun r a b => rowLen hm r a b) (colsR A 0 m.length) B mR (by omega) (by omega)
      obtain ⟨_, hb⟩ := minorB hm c.symm (by omega) mR mC
      obtain ⟨g, g1, g2, g3⟩ := xg (colsR A 0 m.length).length hAl
      have hgcd := implGcd_ev (g : Int) (dF (rowX m) (colsR A 0 m.length) (colsR B 0 m.length)) (by omega) hb
      rw [Int.natAbs_natCast] at hgcd
      rw [g2]
      refine ev_ift (by omega) (ev_ift (by omega) (ev_ift (by omega) (Ev.bind hdet (Ev.bind hgcd ?_))))
      refine ih (B + 1) _ (by omega) ⟨by rw [List.length_set]; exact xl, fun k hk => ?_⟩
      by_cases ck : k = (colsR A 0 m.length).length
      · refine ⟨Nat.gcd g (dF (rowX m) (colsR A 0 m.length) (colsR B 0 m.length)).natAbs, gcd_lt g1 hb, by rw [rd_set _ _ _ _ (by omega), if_pos ck], fun d => ?_⟩
        rw [Nat.dvd_gcd_iff, g3]
        constructor
        · rintro ⟨p, q⟩ a b ha hb' hab la lb
          by_cases e : a = A ∧ b = B
          · obtain ⟨rfl, rfl⟩ := e; exact q
          · exact p a b ha hb' (by omega) (by omega) (by omega)
        · intro p
          exact ⟨fun a b ha hb' hab la lb => p a b ha hb' (by omega) (by omega) (by omega), p A B hA (by omega) (by omega) (by omega) (by omega)⟩
      · obtain ⟨g', p1, p2, p3⟩ := xg k hk
        refine ⟨g', p1, by rw [rd_set _ _ _ _ (by omega), if_neg ck]; exact p2, fun d => ?_⟩
        rw [p3]
        constructor
        · intro p a b ha hb' hab la lb
          by_cases e : a = A ∧ b = B
          · obtain ⟨rfl, rfl⟩ := e; omega
          · exact p a b ha hb' (by omega) la lb
        · intro p a b ha hb' hab la lb
          exact p a b ha hb' (by omega) la lb
    · refine ev_ifn (by omega) (ih (B + 1) x (by omega) ⟨xl, fun k hk => ?_⟩)
      obtain ⟨g', p1, p2, p3⟩ := xg k hk
      refine ⟨g', p1, p2, fun d => ?_⟩
      rw [p3]
      constructor
      · intro p a b ha hb' hab la lb
        by_cases e : a = A ∧ b = B
        · obtain ⟨rfl, rfl⟩ := e; omega
        · exact p a b ha hb' (by omega) la lb
      · intro p a b ha hb' hab la lb
        exact p a b ha hb' (by omega) la lb
theorem implInv2 (x : List Int) (xl : x.length = m.length + 1) (hx : ∀ k, k ≤ m.length → rd x (k : Int) = ((gk (rowX m) m.length k : Nat) : Int)) :
    ∀ (d k : Nat), k + d = m.length → Ev (fun f => impl_InvariantFactors.l2 f x ((ifL (rowX m) m.length).take k) (m.length : Int) (k : Int)) (ifL (rowX m) m.length) := by
  obtain ⟨h6, _⟩ := matB_facts hm
  intro d
  induction d with
  | zero =>
    intro k hk
    refine ev_succ ?_
    simp only [impl_InvariantFactors.l2]
    refine ev_ifn (by omega) ?_
    rw [List.take_of_length_le (by rw [ifL_len]; omega)]
    exact Ev.now _
  | succ d ih =>
    intro k hk
    have h1 := ih (k + 1) (by omega)
    have hlt := gk_lt hm (k + 1) (by omega)
    rw [ifL_get _ _ _ (by omega)] at h1
    have hlen : ((ifL (rowX m) m.length).take k).length < 17592186044416 := by rw [List.length_take, ifL_len]; omega
    refine ev_succ ?_
    simp only [impl_InvariantFactors.l2, wrap_succ (show k < 4611686018427387904 by omega), hx k (by omega), hx (k + 1) (by omega)]
    refine ev_ift (by omega) (ev_ift (by omega) (ev_ift (by omega) ?_))
    by_cases c1 : gk (rowX m) m.length (k + 1) = 0
    · rw [if_pos c1] at h1
      exact ev_ift (by omega) (ev_ift hlen h1)
    · rw [if_neg c1] at h1
      have c0 : gk (rowX m) m.length k ≠ 0 := fun h => c1 (gk_next h6 (by omega) h)
      rw [tdivN _ _ hlt]
      exact ev_ifn (by omega) (ev_ift (by omega) (ev_ift (by omega) (ev_ifn (by omega) (ev_ift hlen h1))))
theorem implInv0 : ∀ (d A : Nat) (x : List Int), A + d = 2 ^ m.length → Seen m A 0 x → Ev (fun f => impl_InvariantFactors.l0 f m x (A : Int)) (ifL (rowX m) m.length) := by
  obtain ⟨h6, _⟩ := matB_facts hm
  have h64 : 2 ^ m.length ≤ 64 := by have := Nat.pow_le_pow_right (n := 2) (by decide) h6; simpa using this
  intro d
  induction d with
  | zero =>
    intro A x hA hs
    obtain rfl : A = 2 ^ m.length := by omega
    obtain ⟨xl, xg⟩ := hs
    have hx : ∀ k, k ≤ m.length → rd x (k : Int) = ((gk (rowX m) m.length k : Nat) : Int) := by
      intro k hk
      obtain ⟨g, g1, g2, g3⟩ := xg k hk
      rw [g2]
      congr 1
      refine Nat.dvd_antisymm ((dvd_masks _ _ _ _ h6 (by omega)).2 fun a b ha hb la lb => (g3 g).1 (Nat.dvd_refl _) a b ha hb (by omega) la lb) ((g3 _).2 fun a b ha hb _ la lb => (dvd_masks _ _ _ _ h6 (by omega)).1 (Nat.dvd_refl _) a b ha hb la lb)
    have h2 := implInv2 hm x xl hx m.length 0 (by omega)
    refine ev_succ ?_
    simp only [impl_InvariantFactors.l0, shl_nat m.length (by omega)]
    exact ev_ifn (by omega) h2
  | succ d ih =>
    intro A x hA hs
    have hbits := bitsOf_ev A (by omega)
    rw [cols6 m.length A h6 (by omega)] at hbits
    have h1 := implInv1 hm A (by omega) _ (fun x' hs' => by
      rw [wrap_succ (show A < 4611686018427387904 by omega)]
      refine ih (A + 1) x' (by omega) ⟨hs'.1, fun k hk => ?_⟩
      obtain ⟨g, g1, g2, g3⟩ := hs'.2 k hk
      refine ⟨g, g1, g2, fun d => ?_⟩
      rw [g3]
      constructor
      · intro p a b ha hb hab la lb
        exact p a b ha hb (by omega) la lb
      · intro p a b ha hb hab la lb
        exact p a b ha hb (by omega) la lb) (2 ^ m.length) 0 x (by omega) hs
    refine ev_succ ?_
    simp only [impl_InvariantFactors.l0, shl_nat m.length (by omega)]
    exact ev_ift (by omega) (Ev.bind hbits h1)
theorem implInv_ev (hl : m.length < 4611686018427387904) (hr : ∀ r ∈ m, r.length < 4611686018427387904) : Ev (fun f => impl_InvariantFactors.f f m) (ifL (rowX m) m.length) := by
  obtain ⟨h6, _⟩ := matB_facts hm
  have h2 := implMat_ev m hl hr
  rw [hm] at h2
  simp only [impl_InvariantFactors.f]
  refine Ev.bind h2 (ev_ift rfl (ev_succ ?_))
  simp only [impl_InvariantFactors.j0]
  by_cases c : m.length = 0
  · have e : ifL (rowX m) m.length = [] := by rw [c]; rfl
    rw [e]
    exact ev_ift (by simp [c]) (Ev.now _)
  · have ew : wrap64 ((m.length : Int) + 1) = ((m.length + 1 : Nat) : Int) := by unfold wrap64; omega
    rw [ew]
    refine ev_ifn (by simpa using c) (ev_ift (by omega) (ev_ift (by omega) ?_))
    refine implInv0 hm (2 ^ m.length) 0 _ (by omega) ⟨by rw [Int.toNat_natCast, List.length_replicate], fun k hk => ⟨0, by omega, ?_, fun d => ⟨fun _ a b _ _ h => by omega, fun _ => Nat.dvd_zero _⟩⟩⟩
    unfold rd
    rw [Int.toNat_natCast, List.getD_eq_getElem?_getD, List.getElem?_replicate]
    split <;> rfl
end
theorem invF_both (m : List (List Int)) (hl : m.length < 4611686018427387904) (hr : ∀ r ∈ m, r.length < 4611686018427387904) : ∃ b : List Int, Ev (fun f => impl_InvariantFactors.f f m) b ∧ Ev (fun f => spec_InvariantFactors.f f m) b ∧ b.length ≤ 6 := by
  cases e : matB m with
  | true =>
    obtain ⟨h6, _⟩ := matB_facts e
    exact ⟨_, implInv_ev e hl hr, specInv_ev e hl hr, by rw [ifL_len]; exact h6⟩
  | false =>
    have h1 := implMat_ev m hl hr
    have h2 := specMat_ev m hl hr
    rw [e] at h1 h2
    refine ⟨[], ?_, ?_, by simp⟩
    · simp only [impl_InvariantFactors.f]
      refine Ev.bind h1 (ev_iff (ev_succ ?_))
      simp only [impl_InvariantFactors.j0]
      exact ev_ift trivial (Ev.now _)
    · simp only [spec_InvariantFactors.f]
      exact Ev.bind h2 (ev_iff (Ev.now _))
end Go.Proofs.Ytplcclifmajcfaa.Pure
end
section
set_option linter.unusedVariables false
set_option linter.unusedSimpArgs false
namespace Go.Proofs.Ytplcclifmajcfaa.Pure
open Go.RowKit Go.Proofs.Ytplcclifmajcfaa.P Go.Proofs.YtplcclifmajcfaaW.PrintWords Go.Proofs.YtplcclifmajcfaaW.PrintLast Go.Proofs.YtplcclifmajcfaaW.PrintMore Go.Proofs.Ytplcclifmajcfaa.Base Go.Proofs.Ytplcclifmajcfaa.Loops
theorem rdL_at {l : List (List Int)} {i : Nat} {a : List Int} {r : List (List Int)} (h : l.drop i = a :: r) : rd_L4 l (i : Int) = a := by
  unfold rd_L4
  rw [Int.toNat_natCast]
  exact get_drop h []
theorem szIntSS_ex (m : List (List Int)) (hl : m.length ≤ 9223372036854775807) (hr : ∀ r ∈ m, r.length ≤ 9223372036854775807) :
    ∃ v : Int, Ev (fun k => laws_szIntSS.f k m 1048576) v ∧ (0 ≤ v → m.length ≤ 1048576 ∧ ∀ r ∈ m, r.length ≤ 1048576) := by
  simp only [laws_szIntSS.f]
  have e0 : wrap64 (1048576 - (m.length : Int)) = 1048576 - (m.length : Int) := by unfold wrap64; omega
  rw [e0]
  by_cases c : (1048576 : Int) - m.length < 0
  · exact ⟨-1, ev_ift c (Ev.now _), fun h => absurd h (by omega)⟩
  · have main : ∀ (rest : List (List Int)) (i : Nat) (left : Int), m.drop i = rest → i ≤ m.length → 0 ≤ left → left ≤ 1048576 → ∃ v : Int, Ev (fun k => laws_szIntSS.l0 k m left (i : Int)) v ∧ (0 ≤ v → ∀ r ∈ rest, r.length ≤ 1048576) := by
      intro rest
      induction rest with
      | nil =>
        intro i left hd hi h0 h1
        have := drop_nil hd
        refine ⟨left, ev_succ ?_, fun _ r hr => by cases hr⟩
        simp only [laws_szIntSS.l0]
        exact ev_ifn (by omega) (Ev.now _)
      | cons a rest ih =>
        intro i left hd hi h0 h1
        have hlt := drop_lt hd
        have ha : a ∈ m := List.mem_of_mem_drop (by rw [hd]; exact List.mem_cons_self)
        have hal := hr a ha
        have ea : wrap64 (left - (a.length : Int)) = left - (a.length : Int) := by unfold wrap64; omega
        by_cases c2 : left - (a.length : Int) < 0
        · refine ⟨-1, ev_succ ?_, fun h => absurd h (by omega)⟩
          have es : laws_szIntS.f a left = some (-1) := by unfold laws_szIntS.f; rw [ea, if_pos c2]
          simp only [laws_szIntSS.l0, rdL_at hd, es, Option.bind_some]
          exact ev_ift (by omega) (ev_ift (by omega) (ev_ift (by omega) (Ev.now _)))
        · obtain ⟨v, h2, h3⟩ := ih (i + 1) (left - (a.length : Int)) (drop_next hd) (by omega) (by omega) (by omega)
          refine ⟨v, ev_succ ?_, fun hv r hr' => ?_⟩
          · have es : laws_szIntS.f a left = some (left - (a.length : Int)) := by unfold laws_szIntS.f; rw [ea, if_neg c2]
            simp only [laws_szIntSS.l0, rdL_at hd, es, Option.bind_some, wrap_succ (show i < 4611686018427387904 by omega)]
            exact ev_ift (by omega) (ev_ift (by omega) (ev_ifn (by omega) h2))
          · rcases List.mem_cons.1 hr' with rfl | h
            · omega
            · exact h3 hv r h
    obtain ⟨v, h1, h2⟩ := main m 0 (1048576 - (m.length : Int)) (by simp) (by omega) (by omega) (by omega)
    exact ⟨v, ev_ifn c h1, fun hv => ⟨by omega, h2 hv⟩⟩
theorem toIntSS_ev (m : List (List Int)) (hl : m.length ≤ 1048576) (hr : ∀ r ∈ m, r.length ≤ 1048576) : Ev (fun k => laws_toIntSS.f k m) m := by
  have main : ∀ (rest : List (List Int)) (i : Nat) (x : List (List Int)), m.drop i = rest → i ≤ m.length → x.length = m.length → x.take i = m.take i → Ev (fun k => laws_toIntSS.l0 k m x (i : Int)) m := by
    intro rest
    induction rest with
    | nil =>
      intro i x hd hi hx ht
      have := drop_nil hd
      refine ev_succ ?_
      simp only [laws_toIntSS.l0]
      have e : x = m := by
        rw [List.take_of_length_le (by omega), List.take_of_length_le (by omega)] at ht
        exact ht
      rw [e]
      exact ev_ifn (by omega) (Ev.now _)
    | cons a rest ih =>
      intro i x hd hi hx ht
      have hlt := drop_lt hd
      have ha : a ∈ m := List.mem_of_mem_drop (by rw [hd]; exact List.mem_cons_self)
      have ta := toIntS_ev a (hr a ha)
      have h1 := ih (i + 1) (x.set i a) (drop_next hd) (by omega) (by simpa using hx) (by
        rw [take_drop hd, List.take_succ_eq_append_getElem (by simp; omega), List.take_set_of_le (Nat.le_refl _), ht]
        simp)
      refine ev_succ ?_
      simp only [laws_toIntSS.l0, rdL_at hd, Int.toNat_natCast, wrap_succ (show i < 4611686018427387904 by omega)]
      exact ev_ift (by omega) (ev_ift (by omega) (Ev.bind ta (ev_ift (by omega) h1)))
  simp only [laws_toIntSS.f]
  exact ev_ift (by omega) (ev_ift (by omega) (main m 0 _ (by simp) (by omega) (by simp) (by simp)))
theorem eqIntSS_ev (m : List (List Int)) (hl : m.length < 4611686018427387904) (hr : ∀ r ∈ m, r.length < 4611686018427387904) : Ev (fun k => laws_eqIntSS.f k m m) true := by
  have main : ∀ (rest : List (List Int)) (i : Nat), m.drop i = rest → i ≤ m.length → Ev (fun k => laws_eqIntSS.l0 k m m (i : Int)) true := by
    intro rest
    induction rest with
    | nil =>
      intro i hd hi
      have := drop_nil hd
      refine ev_succ ?_
      simp only [laws_eqIntSS.l0]
      exact ev_ifn (by omega) (Ev.now _)
    | cons a rest ih =>
      intro i hd hi
      have hlt := drop_lt hd
      have ha : a ∈ m := List.mem_of_mem_drop (by rw [hd]; exact List.mem_cons_self)
      have ea := eqIntS_ev a (hr a ha)
      have h1 := ih (i + 1) (drop_next hd) (by omega)
      refine ev_succ ?_
      simp only [laws_eqIntSS.l0, rdL_at hd, wrap_succ (show i < 4611686018427387904 by omega)]
      exact ev_ift (by omega) (ev_ift (by omega) (ev_ift (by omega) (Ev.bind ea (ev_ift rfl h1))))
  simp only [laws_eqIntSS.f]
  exact ev_ift (by first | rfl | with_reducible exact True.intro) (main m 0 (by simp) (by omega))
def mkI (m : Int) (n : Nat) : List Int := (List.range n).map fun i : Nat => m + (i : Int)
theorem mkI_length (m : Int) (n : Nat) : (mkI m n).length = n := by simp [mkI]
theorem mkI_drop {m : Int} {n i : Nat} (h : i < n) : (mkI m n).drop i = (m + (i : Int)) :: (mkI m n).drop (i + 1) := by
  rw [List.drop_eq_getElem_cons (by rw [mkI_length]; exact h)]
  simp [mkI]
theorem markIntS_ev (m : Int) (h0 : 0 ≤ m) (l : List Int) (hl : m + l.length < 2305843009213693952) : Ev (fun k => laws_markIntS.f k l m) (m + (l.length : Int), mkI m l.length) := by
  have main : ∀ (d k i : Nat) (x : List Int), i + d = l.length → x.length = l.length → x.take i = (mkI m l.length).take i → d < k → laws_markIntS.l0 k x (m + (i : Int)) (i : Int) = some (m + (l.length : Int), mkI m l.length) := by
    intro d
    induction d with
    | zero =>
      intro k i x hi hx ht hk
      obtain ⟨k, rfl⟩ := succ_of_lt hk
      have e : i = l.length := by omega
      subst e
      have ex : x = mkI m l.length := fill_end (by rw [mkI_length]; exact hx) (by rw [mkI_length]; exact ht)
      simp only [laws_markIntS.l0]
      rw [if_neg (by omega), ex]
    | succ d ih =>
      intro k i x hi hx ht hk
      obtain ⟨k, rfl⟩ := succ_of_lt hk
      simp only [laws_markIntS.l0]
      rw [if_pos (by omega), if_pos (by omega), wrap_succ (by omega), show wrap64 (m + (i : Int) + 1) = m + ((i + 1 : Nat) : Int) by unfold wrap64; omega, Int.toNat_natCast]
      exact ih k (i + 1) _ (by omega) (by simpa using hx) (fill_step (by rw [mkI_length]; exact hx) ht (mkI_drop (by omega))) (by omega)
  refine ev_k l.length fun k hk => ?_
  unfold laws_markIntS.f
  have h := main l.length k 0 l (by omega) rfl (by simp) hk
  rw [show m + ((0 : Nat) : Int) = m by omega] at h
  exact h
theorem heldIntS_ev (n : Nat) (hn : n < 2305843009213693952) : Ev (fun k => laws_heldIntS.f k (mkI 1 n) 1) (1 + (n : Int)) := by
  have main : ∀ (d k i : Nat), i + d = n → d < k → laws_heldIntS.l0 k (mkI 1 n) (1 + (i : Int)) (i : Int) = some (1 + (n : Int)) := by
    intro d
    induction d with
    | zero =>
      intro k i hi hk
      obtain ⟨k, rfl⟩ := succ_of_lt hk
      simp only [laws_heldIntS.l0, mkI_length]
      rw [if_neg (by omega), show (i : Int) = n by omega]
    | succ d ih =>
      intro k i hi hk
      obtain ⟨k, rfl⟩ := succ_of_lt hk
      simp only [laws_heldIntS.l0, mkI_length, rd_drop (mkI_drop (show i < n by omega))]
      rw [if_pos (by omega), if_pos (by omega), wrap_succ (by omega), show wrap64 (1 + (i : Int) + 1) = 1 + ((i + 1 : Nat) : Int) by unfold wrap64; omega]
      simp only [if_true]
      exact ih k (i + 1) (by omega) (by omega)
  refine ev_k n fun k hk => ?_
  unfold laws_heldIntS.f
  have h := main n k 0 (by omega) hk
  rw [show (1 : Int) + ((0 : Nat) : Int) = 1 by omega] at h
  exact h
theorem markSS_ex (m : List (List Int)) (hl : m.length ≤ 1048576) (hr : ∀ r ∈ m, r.length ≤ 1048576) :
    ∃ (v : Int) (y : List (List Int)), Ev (fun k => laws_markIntSS.f k m 1) (v, y) ∧ 0 ≤ v ∧ v ≤ 1 + 1048576 * 1048576 := by
  have main : ∀ (rest : List (List Int)) (i : Nat) (x : List (List Int)) (v : Int), i ≤ m.length → m.drop i = rest → x.length = m.length → x.drop i = rest → 0 ≤ v → v ≤ 1 + (i : Int) * 1048576 →
      ∃ (v' : Int) (y : List (List Int)), Ev (fun k => laws_markIntSS.l0 k x v (i : Int)) (v', y) ∧ 0 ≤ v' ∧ v' ≤ 1 + (m.length : Int) * 1048576 := by
    intro rest
    induction rest with
    | nil =>
      intro i x v hi hd hx hxd h0 h1
      have : m.length ≤ i := drop_nil hd
      have e : m.length = i := by omega
      refine ⟨v, x, ev_succ ?_, h0, by rw [e]; exact h1⟩
      simp only [laws_markIntSS.l0]
      exact ev_ifn (by omega) (Ev.now _)
    | cons a rest ih =>
      intro i x v hi hd hx hxd h0 h1
      have hlt := drop_lt hd
      have ha : a.length ≤ 1048576 := hr a (by rw [← List.take_append_drop i m, hd]; simp)
      have hg : x.getD i [] = a := get_drop hxd _
      have e := markIntS_ev v h0 a (by omega)
      obtain ⟨v', y, g, g0, g1⟩ := ih (i + 1) (x.set i (mkI v a.length)) (v + (a.length : Int)) (by omega) (drop_next hd) (by simpa using hx) (by
        rw [List.drop_set_of_lt (by omega)]
        exact drop_next hxd) (by omega) (by omega)
      refine ⟨v', y, ev_succ ?_, g0, g1⟩
      simp only [laws_markIntSS.l0, Int.toNat_natCast, hg, wrap_succ (show i < 4611686018427387904 by omega)]
      exact ev_ift (by omega) (ev_ift (by omega) (Ev.bind e g))
  obtain ⟨v, y, g, g0, g1⟩ := main m 0 m 1 (Nat.zero_le _) rfl rfl rfl (by omega) (by omega)
  exact ⟨v, y, g, g0, by omega⟩
end Go.Proofs.Ytplcclifmajcfaa.Pure
end
section
set_option linter.unusedVariables false
set_option linter.unusedSimpArgs false
namespace Go.Proofs.Ytplcclifmajcfaa.Pure
open Go.RowKit Go.Proofs.Ytplcclifmajcfaa.P Go.Proofs.YtplcclifmajcfaaW.PrintWords Go.Proofs.YtplcclifmajcfaaW.PrintLast Go.Proofs.YtplcclifmajcfaaW.PrintMore Go.Proofs.Ytplcclifmajcfaa.Base Go.Proofs.Ytplcclifmajcfaa.Minor Go.Proofs.Ytplcclifmajcfaa.Det Go.Proofs.Ytplcclifmajcfaa.Loops Go.Proofs.Ytplcclifmajcfaa.Bits
theorem FnExactInvariantFactors : StatFnExactInvariantFactors := by
  intro l ⟨hl, hr⟩
  have hl' : l.length ≤ 9223372036854775807 := by unfold maxLen at hl; omega
  have hr' : ∀ r ∈ l, r.length ≤ 9223372036854775807 := fun r h => by have := (hr r h).1; unfold maxLen at this; omega
  refine Ev.rounds (r := true) ?_
  obtain ⟨v, es, hv⟩ := szIntSS_ex l hl' hr'
  unfold laws_FnExactInvariantFactors.f
  refine Ev.bind es ?_
  by_cases c : v < 0
  · exact ev_ift c (Ev.now _)
  · refine ev_ifn c (ev_succ ?_)
    simp only [laws_FnExactInvariantFactors.j0]
    obtain ⟨h1, h2⟩ := hv (by omega)
    have hL : l.length < 4611686018427387904 := by omega
    have hR : ∀ r ∈ l, r.length < 4611686018427387904 := fun r h => by have := h2 r h; omega
    have tt := toIntSS_ev l h1 h2
    have ee := eqIntSS_ev l hL hR
    obtain ⟨b, g1, g2, hb⟩ := invF_both l hL hR
    have eb := eqIntS_ev b (by omega)
    obtain ⟨m1, y1, ms, m0, m2⟩ := markSS_ex l h1 h2
    have mb := markIntS_ev 1 (by omega) b (by omega)
    have hh := heldIntS_ev b.length (by omega)
    repeat (first
      | exact Ev.now _
      | dsimp only
      | (with_reducible refine Ev.bind tt ?_) | (with_reducible refine Ev.bind ee ?_) | (with_reducible refine Ev.bind g1 ?_) | (with_reducible refine Ev.bind g2 ?_) | (with_reducible refine Ev.bind eb ?_) | (with_reducible refine Ev.bind ms ?_) | (with_reducible refine Ev.bind mb ?_) | (with_reducible refine Ev.bind hh ?_)
      | with_reducible refine ev_ift (by first | rfl | with_reducible exact True.intro | omega) ?_
      | with_reducible refine ev_ifn (by omega) ?_
      | with_reducible refine ev_ifb ?_
      | with_reducible refine ev_ifnn ?_
      | with_reducible refine ev_iff ?_
      | (refine ev_succ ?_; simp only [if_true, laws_FnExactInvariantFactors.j1, laws_FnExactInvariantFactors.j2, laws_FnExactInvariantFactors.j3, laws_FnExactInvariantFactors.j4, laws_FnExactInvariantFactors.j5, laws_FnExactInvariantFactors.j6, laws_FnExactInvariantFactors.j7, laws_FnExactInvariantFactors.j8])
      )
end Go.Proofs.Ytplcclifmajcfaa.Pure
end
