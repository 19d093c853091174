/- Functions of the program as plain Lean functions and that the machine's calls answer as they do, the words of the print that these use, lemmas and plain proofs of laws. Put together by a program of this work that leaves out what nothing uses; Lean checks it. -/
import Derived.Test.YtnebapnfkolflaaGba58acd38e
import Derived.Test.YtnebapnfkolflaaGe1d48e96ce
import Derived.Test.YtnebapnfkolflaaG469c236d45
import Derived.Test.YtnebapnfkolflaaG0e5aa1090e
import Derived.Test.YtnebapnfkolflaaG32d6827594
import Derived.Test.YtnebapnfkolflaaG39afe4bd0c
section
namespace Go.Proofs.Ytnebapnfkolflaa.P
open Go.RowKit Go.Proofs.YtnebapnfkolflaaW.PrintWords Go.Proofs.YtnebapnfkolflaaW.PrintLast Go.Proofs.YtnebapnfkolflaaW.PrintMore
attribute [local go_sem] max2_int min2_int max_two min_two max_three min_three max_four min_four
set_option linter.unusedVariables false
set_option linter.unusedSimpArgs false
def spec_DifferenceClass.j0 : Nat → Int → Int → Bool → Int → List (S70) → Option (List Int × Bool)
 | 0, _, _, _, _, _ => none
 | k + 1, x1, x2, x29, x236000, x236001 => if x29 = true then (some (([] : List Int), false)) else (if 0 ≤ x236000 then (if (x236000 : Int).toNat ≤ 35184372088832 then ((some (List.replicate (x236000 : Int).toNat 0 : List Int)).bind fun y239 => (if 0 ≤ x1 then (if x1 < (y239.length : Int) then ((some (y239.set (x1 : Int).toNat (wrap64 ((rd y239 x1) + 1)) : List Int)).bind fun y243 => (if 0 ≤ x2 then (if x2 < (y239.length : Int) then ((spec_l05Reduce.f k x236000 x236001 (y243.set (x2 : Int).toNat (wrap64 ((rd y243 x2) - 1))) 0).bind fun bt246 => (some (bt246.1, true))) else (none)) else (none))) else (none)) else (none))) else (none)) else (none))
def spec_DifferenceClass.f (k : Nat) (a0_0 : Int) (l0_1 : List (S70)) (a1 : Int) (a2 : Int) : Option (List Int × Bool) := (spec_GraphOk.f k a0_0 l0_1).bind fun t236 => (if t236 = true then ((spec_l01In.f a1 0 (wrap64 (a0_0 - 1))).bind fun t237 => (if t237 = true then ((spec_l01In.f a2 0 (wrap64 (a0_0 - 1))).bind fun t238 => (spec_DifferenceClass.j0 k a1 a2 (!t238) a0_0 l0_1)) else (spec_DifferenceClass.j0 k a1 a2 true a0_0 l0_1))) else (spec_DifferenceClass.j0 k a1 a2 true a0_0 l0_1))
set_option maxHeartbeats 8000000 in
set_option maxRecDepth 100000 in
theorem spec_DifferenceClass.calls (k : Nat) (a0_0 : Int) (A0_1 : Option Addr) (c0_1 : Nat) (l0_1 : List (S70)) (a1 : Int) (a2 : Int) (r1 : List Int) (r2 : Bool) (w : World) (hr0_1 : Kd.C k70 w A0_1 l0_1.length l0_1) (hc0_1 : l0_1.length ≤ c0_1) (h : spec_DifferenceClass.f k a0_0 l0_1 a1 a2 = some (r1, r2)) :
  Calls Try.prog 35 #[.agg #[.int .i64 a0_0, .slice A0_1 l0_1.length c0_1], .int .i64 a1, .int .i64 a2] w fun e w' => ∃ v0_ : Value, e = .returned (.tuple #[v0_, .bool r2]) ∧ Kd.R (Kd.int .i64) 3 w' w.heap.size (fun _ => True) v0_ r1 ∧ Below w.heap.size w w' := by
 have hu25 := Try.underlying25
 have HR0_1 := Aside0.mk hr0_1
 have HC0_1 := Aside0.mk hc0_1
 clear hr0_1 hc0_1
 have HB := Aside0.mk (Below.refl w.heap.size w)
 have H : ((spec_GraphOk.f k a0_0 l0_1).bind fun t236 => (if t236 = true then ((spec_l01In.f a1 0 (wrap64 (a0_0 - 1))).bind fun t237 => (if t237 = true then ((spec_l01In.f a2 0 (wrap64 (a0_0 - 1))).bind fun t238 => (spec_DifferenceClass.j0 k a1 a2 (!t238) a0_0 l0_1)) else (spec_DifferenceClass.j0 k a1 a2 true a0_0 l0_1))) else (spec_DifferenceClass.j0 k a1 a2 true a0_0 l0_1))) = some (r1, r2) := h
 clear h
 have HC4 := Aside0.mk H
 clear H
 go_enter Try.func35, Try.ntmps35
 go_upto_region 1 with (first | ((with_reducible refine gate_dst (N := 3) rfl ?_); refine box_event ?hg (N := 3) ?hd (cs := #[.int .i64 a0_0, .slice A0_1 l0_1.length c0_1]) (t := 25) ?hr ?_; (case hd => rfl); (case hg => rfl); (case hr => first | (go_simp; done) | (go_simp; rfl)); intro gb235 hg w5 hbox hb; have BK235 := Aside0.mk (hbox); have GW235 := Aside0.mk ((by rw [hg]; exact (below_size (Lz HB)) : w.heap.size ≤ gb235)); have GE235 := Aside0.mk ((by rw [hg]; exact (below_size (Lz HB)) : w.heap.size ≤ gb235)); replace HB := Aside0.mk (below_step (Lz HB) hb); clear hb hbox hg))
 (try simp only [Act.put, List.setIfInBounds_toArray, List.set_cons_zero, List.set_cons_succ])
 go_cut [29] (fun v29 wc => ∃ (kq : Nat) (x29_3 : Bool), v29 = .bool x29_3 ∧ Aside0 (spec_DifferenceClass.j0 kq a1 a2 x29_3 a0_0 l0_1 = some (r1, r2)) ∧ Aside0 (kq ≤ k) ∧ Aside0 (wc.heap[gb235]? = some (.cells #[.int .i64 a0_0, (.slice A0_1 l0_1.length c0_1)] 25 (0, 0))) ∧ Aside0 (Below w.heap.size w wc))
 case first =>
  have H := HC4.out
  clear HC4
  replace H := Option.bind_eq_some_iff.mp H
  obtain ⟨t236, A60, H⟩ := H
  replace H : (if t236 = true then ((spec_l01In.f a1 0 (wrap64 (a0_0 - 1))).bind fun t237 => (if t237 = true then ((spec_l01In.f a2 0 (wrap64 (a0_0 - 1))).bind fun t238 => (spec_DifferenceClass.j0 k a1 a2 (!t238) a0_0 l0_1)) else (spec_DifferenceClass.j0 k a1 a2 true a0_0 l0_1))) else (spec_DifferenceClass.j0 k a1 a2 true a0_0 l0_1)) = some (r1, r2) := H
  have A6 := Aside0.mk A60
  clear A60
  by_cases c7 : t236 = true
  ·subst c7
   have H1 : ((spec_l01In.f a1 0 (wrap64 (a0_0 - 1))).bind fun t237 => (if t237 = true then ((spec_l01In.f a2 0 (wrap64 (a0_0 - 1))).bind fun t238 => (spec_DifferenceClass.j0 k a1 a2 (!t238) a0_0 l0_1)) else (spec_DifferenceClass.j0 k a1 a2 true a0_0 l0_1))) = some (r1, r2) := by rw [if_pos rfl] at H; exact H
   clear H
   have H := H1
   clear H1
   replace H := Option.bind_eq_some_iff.mp H
   obtain ⟨t237, A80, H⟩ := H
   replace H : (if t237 = true then ((spec_l01In.f a2 0 (wrap64 (a0_0 - 1))).bind fun t238 => (spec_DifferenceClass.j0 k a1 a2 (!t238) a0_0 l0_1)) else (spec_DifferenceClass.j0 k a1 a2 true a0_0 l0_1)) = some (r1, r2) := H
   have A8 := Aside0.mk A80
   clear A80
   by_cases c9 : t237 = true
   ·subst c9
    have H1 : ((spec_l01In.f a2 0 (wrap64 (a0_0 - 1))).bind fun t238 => (spec_DifferenceClass.j0 k a1 a2 (!t238) a0_0 l0_1)) = some (r1, r2) := by rw [if_pos rfl] at H; exact H
    clear H
    have H := H1
    clear H1
    replace H := Option.bind_eq_some_iff.mp H
    obtain ⟨t238, A100, H⟩ := H
    replace H : (spec_DifferenceClass.j0 k a1 a2 (!t238) a0_0 l0_1) = some (r1, r2) := H
    have A10 := Aside0.mk A100
    clear A100
    have H' := Aside0.mk H
    clear H
    have hcz11_0 : w5.cell? ⟨gb235, 0, none⟩ = some (.int .i64 a0_0) := (blk_cell BK235.out 0).trans rfl
    have hcz11_1 : w5.cell? ⟨gb235, 1, none⟩ = some (.slice A0_1 l0_1.length c0_1) := (blk_cell BK235.out 1).trans rfl
    have hfz11_0 := blk_frozen BK235.out 0
    have hfz11_1 := blk_frozen BK235.out 1
    go_wp2_with (first | ((with_reducible refine gate_callee (f := 76) rfl ?_); refine goesM_ (some 12) rfl rfl Try.func76 (by kernel_rfl) rfl #[.agg #[.int .i64 a0_0, .slice A0_1 l0_1.length c0_1]] rfl ?_; (with_reducible refine (spec_GraphOk.calls k a0_0 _ _ l0_1 true _ ?side1 ?side2 A6.out).mono ?_); (case side1 => exact Cz ((Kd.C_below HR0_1.out HB.out))); (case side2 => exact HC0_1.out); rintro e w12 ⟨rfl, hb⟩; refine ⟨_, rfl, ?_⟩; replace BK235 := Aside0.mk (blk_below (g := gb235) (o := .cells #[.int .i64 a0_0, .slice A0_1 l0_1.length c0_1] 25 (0, 0)) (Bz BK235) hb); replace HB := Aside0.mk (below_step (by exact Lz1 HB GE235) hb); (try clear hb); (try clear hb2); (try clear hk); (try clear hi); have hcz13_0 : w12.cell? ⟨gb235, 0, none⟩ = some (.int .i64 a0_0) := (blk_cell BK235.out 0).trans rfl; have hcz13_1 : w12.cell? ⟨gb235, 1, none⟩ = some (.slice A0_1 l0_1.length c0_1) := (blk_cell BK235.out 1).trans rfl; have hfz13_0 := blk_frozen BK235.out 0; have hfz13_1 := blk_frozen BK235.out 1) | (go_at_call 79; (with_reducible refine (spec_l01In.calls a1 0 (wrap64 (a0_0 - 1)) true _ A8.out).mono ?_); rintro e w' ⟨rfl, ⟨nd, rfl⟩⟩) | (go_at_call 79; (with_reducible refine (spec_l01In.calls a2 0 (wrap64 (a0_0 - 1)) t238 _ A10.out).mono ?_); rintro e w' ⟨rfl, ⟨nd, rfl⟩⟩))
    go_meet
    case rel => exact ⟨_, (!t238), (by first | rfl | (simp; done) | (simp [*]; done)), H', ⟨by first | omega | exact Nat.le_refl _⟩, ⟨by exact Bz BK235⟩, ⟨by exact Lz1 HB GE235⟩⟩
   replace c9 := Bool.eq_false_iff.mpr c9
   subst c9
   have H1 : (spec_DifferenceClass.j0 k a1 a2 true a0_0 l0_1) = some (r1, r2) := by rw [if_neg (show ¬ (false = true) by decide)] at H; exact H
   clear H
   have H := H1
   clear H1
   have H' := Aside0.mk H
   clear H
   have hcz14_0 : w5.cell? ⟨gb235, 0, none⟩ = some (.int .i64 a0_0) := (blk_cell BK235.out 0).trans rfl
   have hcz14_1 : w5.cell? ⟨gb235, 1, none⟩ = some (.slice A0_1 l0_1.length c0_1) := (blk_cell BK235.out 1).trans rfl
   have hfz14_0 := blk_frozen BK235.out 0
   have hfz14_1 := blk_frozen BK235.out 1
   go_wp2_with (first | ((with_reducible refine gate_callee (f := 76) rfl ?_); refine goesM_ (some 12) rfl rfl Try.func76 (by kernel_rfl) rfl #[.agg #[.int .i64 a0_0, .slice A0_1 l0_1.length c0_1]] rfl ?_; (with_reducible refine (spec_GraphOk.calls k a0_0 _ _ l0_1 true _ ?side1 ?side2 A6.out).mono ?_); (case side1 => exact Cz ((Kd.C_below HR0_1.out HB.out))); (case side2 => exact HC0_1.out); rintro e w15 ⟨rfl, hb⟩; refine ⟨_, rfl, ?_⟩; replace BK235 := Aside0.mk (blk_below (g := gb235) (o := .cells #[.int .i64 a0_0, .slice A0_1 l0_1.length c0_1] 25 (0, 0)) (Bz BK235) hb); replace HB := Aside0.mk (below_step (by exact Lz1 HB GE235) hb); (try clear hb); (try clear hb2); (try clear hk); (try clear hi); have hcz16_0 : w15.cell? ⟨gb235, 0, none⟩ = some (.int .i64 a0_0) := (blk_cell BK235.out 0).trans rfl; have hcz16_1 : w15.cell? ⟨gb235, 1, none⟩ = some (.slice A0_1 l0_1.length c0_1) := (blk_cell BK235.out 1).trans rfl; have hfz16_0 := blk_frozen BK235.out 0; have hfz16_1 := blk_frozen BK235.out 1) | (go_at_call 79; (with_reducible refine (spec_l01In.calls a1 0 (wrap64 (a0_0 - 1)) false _ A8.out).mono ?_); rintro e w' ⟨rfl, ⟨nd, rfl⟩⟩))
   go_meet
   case rel => exact ⟨_, (true), (by first | rfl | (simp; done) | (simp [*]; done)), H', ⟨by first | omega | exact Nat.le_refl _⟩, ⟨by exact Bz BK235⟩, ⟨by exact Lz1 HB GE235⟩⟩
  replace c7 := Bool.eq_false_iff.mpr c7
  subst c7
  have H1 : (spec_DifferenceClass.j0 k a1 a2 true a0_0 l0_1) = some (r1, r2) := by rw [if_neg (show ¬ (false = true) by decide)] at H; exact H
  clear H
  have H := H1
  clear H1
  have H' := Aside0.mk H
  clear H
  have hcz17_0 : w5.cell? ⟨gb235, 0, none⟩ = some (.int .i64 a0_0) := (blk_cell BK235.out 0).trans rfl
  have hcz17_1 : w5.cell? ⟨gb235, 1, none⟩ = some (.slice A0_1 l0_1.length c0_1) := (blk_cell BK235.out 1).trans rfl
  have hfz17_0 := blk_frozen BK235.out 0
  have hfz17_1 := blk_frozen BK235.out 1
  go_wp2_with (first | ((with_reducible refine gate_callee (f := 76) rfl ?_); refine goesM_ (some 12) rfl rfl Try.func76 (by kernel_rfl) rfl #[.agg #[.int .i64 a0_0, .slice A0_1 l0_1.length c0_1]] rfl ?_; (with_reducible refine (spec_GraphOk.calls k a0_0 _ _ l0_1 false _ ?side1 ?side2 A6.out).mono ?_); (case side1 => exact Cz ((Kd.C_below HR0_1.out HB.out))); (case side2 => exact HC0_1.out); rintro e w18 ⟨rfl, hb⟩; refine ⟨_, rfl, ?_⟩; replace BK235 := Aside0.mk (blk_below (g := gb235) (o := .cells #[.int .i64 a0_0, .slice A0_1 l0_1.length c0_1] 25 (0, 0)) (Bz BK235) hb); replace HB := Aside0.mk (below_step (by exact Lz1 HB GE235) hb); (try clear hb); (try clear hb2); (try clear hk); (try clear hi)))
  go_meet
  case rel => exact ⟨_, (true), (by first | rfl | (simp; done) | (simp [*]; done)), H', ⟨by first | omega | exact Nat.le_refl _⟩, ⟨by exact Bz BK235⟩, ⟨by exact Lz1 HB GE235⟩⟩
 case rest =>
  clear HC4
  try clear c7
  try clear c9
  obtain ⟨kq, x29_3, rfl, HA, HJ3, BK235, HB⟩ := hcut
  cases kq with
  | zero => exact absurd HA.out (by simp [spec_DifferenceClass.j0])
  | succ kj3 =>
   have H := HA.out
   clear HA
   simp only [spec_DifferenceClass.j0] at H
   by_cases c19 : x29_3 = true
   ·subst c19
    have H1 : (some (([] : List Int), false)) = some (r1, r2) := by rw [if_pos rfl] at H; exact H
    clear H
    have H := H1
    clear H1
    simp only [Option.some.injEq, Prod.mk.injEq] at H
    obtain ⟨rfl, rfl⟩ := H
    go_wp2
    go_ret2
    exact ⟨_, by first | rfl | (simp [errW_none, errW_some] <;> rfl) | (simp [*, errW_none, errW_some] <;> rfl), by first | exact Kd.R_nil _ _ _ _ _ | exact Kd.N_nil _ _ _ _ _ | exact Kd.V_nil _ _ _ _ _ | exact Kd.Q_nil _ _ _ _ _ | exact Kd.S_nil _ _ _ _ _, by exact Lz1 HB GE235⟩
   replace c19 := Bool.eq_false_iff.mpr c19
   subst c19
   have H1 : (if 0 ≤ a0_0 then (if (a0_0 : Int).toNat ≤ 35184372088832 then ((some (List.replicate (a0_0 : Int).toNat 0 : List Int)).bind fun y239 => (if 0 ≤ a1 then (if a1 < (y239.length : Int) then ((some (y239.set (a1 : Int).toNat (wrap64 ((rd y239 a1) + 1)) : List Int)).bind fun y243 => (if 0 ≤ a2 then (if a2 < (y239.length : Int) then ((spec_l05Reduce.f kj3 a0_0 l0_1 (y243.set (a2 : Int).toNat (wrap64 ((rd y243 a2) - 1))) 0).bind fun bt246 => (some (bt246.1, true))) else (none)) else (none))) else (none)) else (none))) else (none)) else (none)) = some (r1, r2) := by rw [if_neg (show ¬ (false = true) by decide)] at H; exact H
   clear H
   have H := H1
   clear H1
   by_cases c20 : 0 ≤ a0_0
   ·rw [if_pos c20] at H
    have c20b0 := eq_true c20
    have c20b1 : decide (0 ≤ a0_0) = true := decide_eq_true c20
    clear c20
    by_cases c21 : (a0_0 : Int).toNat ≤ 35184372088832
    ·rw [if_pos c21] at H
     have c21b0 := eq_true c21
     have c21b1 : decide ((a0_0 : Int).toNat ≤ 35184372088832) = true := decide_eq_true c21
     clear c21
     obtain ⟨y239, hy239⟩ : ∃ y_ : List Int, y_ = (List.replicate (a0_0 : Int).toNat 0) := ⟨_, rfl⟩
     replace H : (if 0 ≤ a1 then (if a1 < (y239.length : Int) then ((some (y239.set (a1 : Int).toNat (wrap64 ((rd y239 a1) + 1)) : List Int)).bind fun y243 => (if 0 ≤ a2 then (if a2 < (y239.length : Int) then ((spec_l05Reduce.f kj3 a0_0 l0_1 (y243.set (a2 : Int).toNat (wrap64 ((rd y243 a2) - 1))) 0).bind fun bt246 => (some (bt246.1, true))) else (none)) else (none))) else (none)) else (none)) = some (r1, r2) := by first | (rw [hy239]; with_reducible exact H) | (have H2_ := (Option.bind_some _ _).symm.trans H; rw [hy239]; with_reducible exact H2_) | (have H2_ := (Option.bind_some _ _).symm.trans H; with_reducible exact H2_) | with_reducible exact H | (rw [hy239]; exact H) | exact H
     have Ny239 := Aside0.mk hy239
     clear hy239
     by_cases c22 : 0 ≤ a1
     ·rw [if_pos c22] at H
      have c22b0 : decide (0 ≤ a1) = true := decide_eq_true c22
      clear c22
      by_cases c23 : a1 < (y239.length : Int)
      ·rw [if_pos c23] at H
       have c23b0 : decide (a1 < (y239.length : Int)) = true := decide_eq_true c23
       clear c23
       obtain ⟨y243, hy243⟩ : ∃ y_ : List Int, y_ = (y239.set (a1 : Int).toNat (wrap64 ((rd y239 a1) + 1))) := ⟨_, rfl⟩
       replace H : (if 0 ≤ a2 then (if a2 < (y239.length : Int) then ((spec_l05Reduce.f kj3 a0_0 l0_1 (y243.set (a2 : Int).toNat (wrap64 ((rd y243 a2) - 1))) 0).bind fun bt246 => (some (bt246.1, true))) else (none)) else (none)) = some (r1, r2) := by first | (rw [hy243]; with_reducible exact H) | (have H2_ := (Option.bind_some _ _).symm.trans H; rw [hy243]; with_reducible exact H2_) | (have H2_ := (Option.bind_some _ _).symm.trans H; with_reducible exact H2_) | with_reducible exact H | (rw [hy243]; exact H) | exact H
       have Ny243 := Aside0.mk hy243
       clear hy243
       by_cases c25 : 0 ≤ a2
       ·rw [if_pos c25] at H
        have c25b0 : decide (0 ≤ a2) = true := decide_eq_true c25
        clear c25
        by_cases c26 : a2 < (y239.length : Int)
        ·rw [if_pos c26] at H
         have c26b0 : decide (a2 < (y239.length : Int)) = true := decide_eq_true c26
         clear c26
         obtain ⟨y245, hy245⟩ : ∃ y_ : List Int, y_ = (y243.set (a2 : Int).toNat (wrap64 ((rd y243 a2) - 1))) := ⟨_, rfl⟩
         replace H : ((spec_l05Reduce.f kj3 a0_0 l0_1 y245 0).bind fun bt246 => (some (bt246.1, true))) = some (r1, r2) := by first | (rw [hy245]; with_reducible exact H) | (have H2_ := (Option.bind_some _ _).symm.trans H; rw [hy245]; with_reducible exact H2_) | (have H2_ := (Option.bind_some _ _).symm.trans H; with_reducible exact H2_) | with_reducible exact H | (rw [hy245]; exact H) | exact H
         have Ny245 := Aside0.mk hy245
         clear hy245
         replace H := Option.bind_eq_some_iff.mp H
         obtain ⟨⟨t246, t249⟩, A280, H⟩ := H
         replace H : (some (t246, true)) = some (r1, r2) := H
         have A28 := Aside0.mk A280
         clear A280
         simp only [Option.some.injEq, Prod.mk.injEq] at H
         obtain ⟨rfl, rfl⟩ := H
         have hcz29_0 : wc.cell? ⟨gb235, 0, none⟩ = some (.int .i64 a0_0) := (blk_cell BK235.out 0).trans rfl
         have hcz29_1 : wc.cell? ⟨gb235, 1, none⟩ = some (.slice A0_1 l0_1.length c0_1) := (blk_cell BK235.out 1).trans rfl
         have hfz29_0 := blk_frozen BK235.out 0
         have hfz29_1 := blk_frozen BK235.out 1
         go_wp2_with (first | ((with_reducible refine gate_dst (N := 32) rfl ?_); refine Kd.R_make (Kd.int .i64) _ 3 rfl (N := 32) rfl 27 _ _ rfl a0_0 rfl rfl Try.underlying27 (.int .i64 0) 8 info3 rfl (by decide) (by omega) 0 (ok := fun _ => True) (okp := fun _ => True) rfl (fun _ hk => hk) trivial (of_decide_eq_true (by first | (with_reducible assumption) | assumption)) (Nat.le_trans (Nat.mul_le_mul_right _ (of_decide_eq_true (by first | (with_reducible assumption) | assumption) : a0_0.toNat ≤ 35184372088832)) (by omega)) (Below.refl _ _) (Nat.le_refl _) ?_; intro v240 w30 ho31 hb hg_ hnew_; clear hg_ hnew_; (first | rw [← Ny239.out] at ho31 | (simp only [Int.reduceToNat] at ho31; rw [← Ny239.out] at ho31)); have HO241 := Aside0.mk (Kd.R_lower ho31 (below_size (by exact Lz1 HB GE235))); replace BK235 := Aside0.mk (blk_below (g := gb235) (o := .cells #[.int .i64 a0_0, .slice A0_1 l0_1.length c0_1] 25 (0, 0)) (Bz BK235) hb); replace HB := Aside0.mk (below_step (by exact Lz1 HB GE235) hb); clear hb ho31; obtain ⟨Ao32, co32, eo32⟩ := Kd.R_slice HO241.out; subst eo32; have p242 : 0 ≤ (a1 : Int) := of_decide_eq_true (by first | (with_reducible assumption) | assumption); have q242 : a1 < (y239.length : Int) := of_decide_eq_true (by first | (with_reducible assumption) | assumption); obtain ⟨ad242, e242, hx242_0⟩ := Kd.at_int (Kd.R_reads' HO241.out).2.2 a1 p242 q242; cases e242; replace p242 := eq_true p242; replace q242 := eq_true q242; have p24 : 0 ≤ (a1 : Int) := of_decide_eq_true (by first | (with_reducible assumption) | assumption); have q24 : (a1 : Int) < ((y239.length : Int) : Int) := of_decide_eq_true (by first | (with_reducible assumption) | assumption); obtain ⟨go24, co24, eo24, gb24, gl24, cl24, HG24⟩ := Kd.R_form HO241.out (by omega); (first | cases eo24 | (injection eo24 with ea_ en_ ec_; (first | subst ea_ | (injection ea_ with ea_; subst ea_)); subst ec_; clear en_)); have GB24 := Aside0.mk gb24; have GG24 := Aside0.mk HG24; clear gb24 gl24 HG24; (first | simp only [add_plain] at hx242_0 | skip); obtain ⟨hx24_0, hf24_0⟩ := Kd.R_celln 0 HO241.out (a1 : Int) p24 q24; replace p24 := eq_true p24; replace q24 := eq_true q24; obtain ⟨hy33_, hz33_⟩ := Kd.R_celln 0 HO241.out (a1 : Int) (of_decide_eq_true (by first | (with_reducible assumption) | assumption)) (of_decide_eq_true (by first | (with_reducible assumption) | assumption)); have HP33 := Kd.R_putg HO241.out (a1 : Int) (wrap64 ((rd y239 a1) + 1))) | ((with_reducible refine gate_store (t := 3) (p := 38) rfl ?_); refine store_event (t := 3) (p := 38) (v := ?vo_w34) (w1 := (w30.setCell ⟨go24, (a1 : Int).toNat, none⟩ (.int .i64 (wrap64 ((rd y239 a1) + 1))))) ?hg ?ho ?hn ?hr ?_; (case ho => rfl); (case hg => rfl); (case hn => rfl); (case hr => first | (go_simp; done) | (go_simp; rfl)); intro w34 hw; have hg : w30.grownBy w34 (some go24) := (by rw [hw]; exact HP33.2); have hp_ : Kd.R (Kd.int .i64) 3 w34 w.heap.size (fun _ => True) (.slice (some ⟨go24, 0, none⟩) y239.length co32) y243 := (by rw [hw, Ny243.out]; exact HP33.1); clear HP33; replace BK235 := Aside0.mk (blk_grown (g := gb235) (o := .cells #[.int .i64 a0_0, .slice A0_1 l0_1.length c0_1] 25 (0, 0)) (Bz BK235) hg (Kd.R_ne HO241.out BK235.out (by decide))); replace HO241 := Aside0.mk (hp_); replace HB := Aside0.mk ((by rw [hw]; exact below_set (HB.out) GB24.out : Below w.heap.size w w34)); clear hg hw hp_; have p244 : 0 ≤ (a2 : Int) := of_decide_eq_true (by first | (with_reducible assumption) | assumption); have q244 : a2 < (y243.length : Int) := (by have h_ : (a2 : Int) < ((y239.length : Int) : Int) := of_decide_eq_true (by first | (with_reducible assumption) | assumption); first | (have e_ := (Kd.R_reads' HO241.out).1; omega) | simpa only [Ny243.out, List.length_set] using h_); have ql244 : ((a2 : Int) < ((y239.length : Int) : Int)) = True := eq_true (of_decide_eq_true (by first | (with_reducible assumption) | assumption)); obtain ⟨ad244, e244, hx244_0⟩ := Kd.at_int (Kd.R_reads' HO241.out).2.2 a2 p244 q244; obtain rfl : (⟨go24, 0, none⟩ : Addr) = ad244 := (by injection e244); (first | simp only [add_plain] at hx244_0 | simp only [add_at] at hx244_0 | simp only [Addr.add, Nat.zero_add] at hx244_0 | skip); replace p244 := eq_true p244; replace q244 := eq_true q244; have p27 : 0 ≤ (a2 : Int) := of_decide_eq_true (by first | (with_reducible assumption) | assumption); have q27 : (a2 : Int) < ((y239.length : Int) : Int) := of_decide_eq_true (by first | (with_reducible assumption) | assumption); obtain ⟨hx27_0, hf27_0⟩ := Kd.R_celln 0 HO241.out (a2 : Int) p27 q27; replace p27 := eq_true p27; replace q27 := eq_true q27; obtain ⟨hy35_, hz35_⟩ := Kd.R_celln 0 HO241.out (a2 : Int) (of_decide_eq_true (by first | (with_reducible assumption) | assumption)) (of_decide_eq_true (by first | (with_reducible assumption) | assumption)); have HP35 := Kd.R_putg HO241.out (a2 : Int) (wrap64 ((rd y243 a2) - 1))) | ((with_reducible refine gate_store (t := 3) (p := 44) rfl ?_); refine store_event (t := 3) (p := 44) (v := ?vo_w36) (w1 := (w34.setCell ⟨go24, (a2 : Int).toNat, none⟩ (.int .i64 (wrap64 ((rd y243 a2) - 1))))) ?hg ?ho ?hn ?hr ?_; (case ho => rfl); (case hg => rfl); (case hn => rfl); (case hr => first | (go_simp; done) | (go_simp; rfl)); intro w36 hw; have hg : w34.grownBy w36 (some go24) := (by rw [hw]; exact HP35.2); have hp_ : Kd.R (Kd.int .i64) 3 w36 w.heap.size (fun _ => True) (.slice (some ⟨go24, 0, none⟩) y239.length co32) y245 := (by rw [hw, Ny245.out]; exact HP35.1); clear HP35; replace BK235 := Aside0.mk (blk_grown (g := gb235) (o := .cells #[.int .i64 a0_0, .slice A0_1 l0_1.length c0_1] 25 (0, 0)) (Bz BK235) hg (Kd.R_ne HO241.out BK235.out (by decide))); replace HO241 := Aside0.mk (hp_); replace HB := Aside0.mk ((by rw [hw]; exact below_set (HB.out) GB24.out : Below w.heap.size w w36)); clear hg hw hp_; have hcz37_0 : w36.cell? ⟨gb235, 0, none⟩ = some (.int .i64 a0_0) := (blk_cell BK235.out 0).trans rfl; have hcz37_1 : w36.cell? ⟨gb235, 1, none⟩ = some (.slice A0_1 l0_1.length c0_1) := (blk_cell BK235.out 1).trans rfl; have hfz37_0 := blk_frozen BK235.out 0; have hfz37_1 := blk_frozen BK235.out 1) | ((with_reducible refine gate_callee (f := 80) rfl ?_); refine goesL_ (some 48) rfl rfl Try.func80 (by kernel_rfl) rfl #[.agg #[.int .i64 a0_0, .slice A0_1 l0_1.length c0_1], .slice (some ⟨go24, 0, none⟩) y245.length co32, .int .i64 0] rfl (by (try simp only [List.map_toArray, List.map_cons, List.map_nil]); first | done | (rw [show y245.length = y239.length from (Kd.R_reads' HO241.out).1.symm] <;> rfl) | rfl | (simp only [List.length_drop, List.length_take]; rfl)) ?_; (with_reducible refine (spec_l05Reduce.calls kj3 a0_0 _ _ l0_1 _ _ y245 0 t246 t249 _ ?side1 ?side2 ?side3 ?side4 A28.out).mono ?_); (case side1 => exact Cz ((Kd.C_below HR0_1.out HB.out))); (case side2 => exact HC0_1.out); (case side3 => exact Cz ((Kd.R_reads' HO241.out).2.2)); (case side4 => rw [show y245.length = y239.length from (Kd.R_reads' HO241.out).1.symm]; exact (Kd.R_reads' HO241.out).2.1); rintro e w38 ⟨v247, v250, rfl, ho0, ho1, hb⟩; refine ⟨_, rfl, ?_⟩; have HO248 := Aside0.mk (Kd.R_lower (Kd.R_new' ho0 (Kd.R_lt (Rz HO241))) (below_size (by exact Lz1 HB GE235))); have HO251 := Aside0.mk (Kd.R_lower (Kd.R_new' ho1 (Kd.R_lt (Rz HO241))) (below_size (by exact Lz1 HB GE235))); replace HO241 := Aside0.mk (Kd.R_mono (Kd.R_told (Kd.R_told (Kd.R_old (Rz HO241) hb) (Kd.R_base ho0)) (Kd.R_base ho1)) (fun _ h_ => h_.1)); replace BK235 := Aside0.mk (blk_below (g := gb235) (o := .cells #[.int .i64 a0_0, .slice A0_1 l0_1.length c0_1] 25 (0, 0)) (Bz BK235) hb); replace HB := Aside0.mk (below_step (by exact Lz1 HB GE235) hb); (try clear hb); (try clear ho0); (try clear ho1)))
         go_ret2
         exact ⟨_, by first | rfl | (simp [errW_none, errW_some] <;> rfl) | (simp [*, errW_none, errW_some] <;> rfl), by (with_reducible repeat (first | apply Kd.R_alloc | apply Kd.R_drewN | apply Kd.R_drew)); exact Kd.R_mono HO248.out (fun _ hk => trivial), by exact Lz1 HB GE235⟩
        rw [if_neg c26] at H
        exact absurd H (by simp)
       rw [if_neg c25] at H
       exact absurd H (by simp)
      rw [if_neg c23] at H
      exact absurd H (by simp)
     rw [if_neg c22] at H
     exact absurd H (by simp)
    rw [if_neg c21] at H
    exact absurd H (by simp)
   rw [if_neg c20] at H
   exact absurd H (by simp)
end Go.Proofs.Ytnebapnfkolflaa.P
end
section
namespace Go.Proofs.Ytnebapnfkolflaa.P
open Go.RowKit Go.Proofs.YtnebapnfkolflaaW.PrintWords Go.Proofs.YtnebapnfkolflaaW.PrintLast Go.Proofs.YtnebapnfkolflaaW.PrintMore
attribute [local go_sem] max2_int min2_int max_two min_two max_three min_three max_four min_four
set_option linter.unusedVariables false
set_option linter.unusedSimpArgs false
def impl_plus.l0 : Nat → List Int → List Int → Int → Int → Option (List Int)
 | 0, _, _, _, _ => none
 | k + 1, x1, x5, x10, x11 => if x11 < x10 then (if 0 ≤ x11 then (if x11 < (x5.length : Int) then (if x11 < (x1.length : Int) then (impl_plus.l0 k x1 (x5.set (x11 : Int).toNat (wrap64 ((rd x5 x11) + (rd x1 x11)))) x10 (wrap64 (x11 + 1))) else (none)) else (none)) else (none)) else (some x5)
def impl_plus.f (k : Nat) (l0 : List Int) (l1 : List Int) : Option (List Int) := (impl_copyInts.f l0).bind fun t329 => (impl_plus.l0 k l1 t329 (t329.length : Int) 0)
def impl_plus.T5 : Bool × List (List Nat × List Nat) := (true, [([], []), ([], []), ([0, 1], [0, 1]), ([2], [2]), ([], []), ([], []), ([4, 5], [4, 5]), ([6], [6]), ([3, 7], [3, 7]), ([0, 1, 0, 1, 2, 3, 4, 5, 6, 7, 8], [0, 1]), ([9, 8, 0, 1, 2, 3, 4, 5, 6, 7, 8], [8, 9])])
def impl_plus.B5 : List Nat := [0, 0, 3, 7, 0, 0, 48, 112, 255, 511, 1023]
theorem impl_plus.tab5 : rtab .any (opsOf Try.f83 5) = impl_plus.T5 := by kernel_rfl
theorem impl_plus.bits5 : waitsOk impl_plus.T5.2 impl_plus.B5 = true := by kernel_rfl
set_option maxHeartbeats 8000000 in
set_option maxRecDepth 100000 in
theorem impl_plus.calls (k : Nat) (A0 : Option Addr) (c0 : Nat) (l0 : List Int) (A1 : Option Addr) (c1 : Nat) (l1 : List Int) (r : List Int) (w : World) (hr0 : Kd.C (Kd.int .i64) w A0 l0.length l0) (hc0 : l0.length ≤ c0) (hr1 : Kd.C (Kd.int .i64) w A1 l1.length l1) (hc1 : l1.length ≤ c1) (h : impl_plus.f k l0 l1 = some r) :
  Calls Try.prog 83 #[.slice A0 l0.length c0, .slice A1 l1.length c1] w fun e w' => ∃ v0_ : Value, e = .returned (v0_) ∧ Kd.R (Kd.int .i64) 3 w' w.heap.size (fun _ => True) v0_ r ∧ Below w.heap.size w w' := by
 have HR0 := Aside0.mk hr0
 have HC0 := Aside0.mk hc0
 clear hr0 hc0
 have HR1 := Aside0.mk hr1
 have HC1 := Aside0.mk hc1
 clear hr1 hc1
 have HB := Aside0.mk (Below.refl w.heap.size w)
 have H : ((impl_copyInts.f l0).bind fun t329 => (impl_plus.l0 k l1 t329 (t329.length : Int) 0)) = some r := h
 clear h
 replace H := Option.bind_eq_some_iff.mp H
 obtain ⟨t329, A30, H⟩ := H
 replace H : (impl_plus.l0 k l1 t329 (t329.length : Int) 0) = some r := H
 have A3 := Aside0.mk A30
 clear A30
 have H' := Aside0.mk H
 clear H
 go_enter Try.func83, Try.ntmps83
 go_wp2_with (first | ((with_reducible refine gate_callee (f := 109) rfl ?_); refine goesM_ (some 8) rfl rfl Try.func109 (by kernel_rfl) rfl #[.slice A0 l0.length c0] rfl ?_; (with_reducible refine (impl_copyInts.calls _ _ l0 t329 _ ?side1 ?side2 A3.out).mono ?_); (case side1 => exact Cz (HR0.out)); (case side2 => exact HC0.out); rintro e w4 ⟨v330, rfl, ho0, hb⟩; refine ⟨_, rfl, ?_⟩; have HO331 := Aside0.mk (Kd.R_lower ho0 (below_size (Lz HB))); replace HB := Aside0.mk (below_step (Lz HB) hb); (try clear hb); (try clear ho0); obtain ⟨Ao5, co5, eo5⟩ := Kd.R_slice HO331.out; subst eo5))
 go_loopg [11] k (fun kq v11 w' => ∃ (x5_1 : List Int) (x11_1 : Int), v11 = .int .i64 x11_1 ∧ Aside0 (impl_plus.l0 kq l1 x5_1 (t329.length : Int) x11_1 = some r) ∧ Aside0 (kq ≤ k) ∧ Aside0 (Kd.R (Kd.int .i64) 3 w' w.heap.size (fun _ => True) (.slice Ao5 t329.length co5) x5_1) ∧ Aside0 (Below w.heap.size w w'))
 case atStart => exact ⟨(t329), (0), (by first | rfl | (simp; done) | (simp [*]; done)), H', ⟨Nat.le_refl _⟩, ⟨by exact Rz HO331⟩, ⟨by exact Lz HB⟩⟩
 case round =>
  clear H'
  try clear c1
  obtain ⟨x5_1, x11_1, rfl, HA, HK1, HO_5, HB⟩ := hrel
  have hl5_1 := (Kd.R_reads' HO_5.out).1
  rw [hl5_1] at HO_5
  (try simp only [hl5_1])
  cases gk with
  | zero => exact absurd HA.out (by simp [impl_plus.l0])
  | succ k1 =>
   have H := HA.out
   clear HA
   simp only [impl_plus.l0] at H
   by_cases c6 : x11_1 < (t329.length : Int)
   ·rw [if_pos c6] at H
    have c6b0 : decide (x11_1 < (t329.length : Int)) = true := decide_eq_true c6
    (try simp only [hl5_1] at c6b0)
    clear c6
    by_cases c7 : 0 ≤ x11_1
    ·rw [if_pos c7] at H
     have c7b0 : decide (0 ≤ x11_1) = true := decide_eq_true c7
     clear c7
     by_cases c8 : x11_1 < (x5_1.length : Int)
     ·rw [if_pos c8] at H
      have c8b0 : decide (x11_1 < (x5_1.length : Int)) = true := decide_eq_true c8
      (try simp only [hl5_1] at c8b0)
      clear c8
      by_cases c9 : x11_1 < (l1.length : Int)
      ·rw [if_pos c9] at H
       have c9b0 : decide (x11_1 < (l1.length : Int)) = true := decide_eq_true c9
       (try simp only [hl5_1] at c9b0)
       clear c9
       obtain ⟨y334, hy334⟩ : ∃ y_ : List Int, y_ = (x5_1.set (x11_1 : Int).toNat (wrap64 ((rd x5_1 x11_1) + (rd l1 x11_1)))) := ⟨_, rfl⟩
       replace H : (impl_plus.l0 k1 l1 y334 (t329.length : Int) (wrap64 (x11_1 + 1))) = some r := by first | (rw [hy334]; with_reducible exact H) | (have H2_ := (Option.bind_some _ _).symm.trans H; rw [hy334]; with_reducible exact H2_) | (have H2_ := (Option.bind_some _ _).symm.trans H; with_reducible exact H2_) | with_reducible exact H | (rw [hy334]; exact H) | exact H
       have Ny334 := Aside0.mk hy334
       clear hy334
       have H' := Aside0.mk H
       clear H
       try go_wp2
       replace HO_5 := Aside0.mk (Kd.R_drew HO_5.out)
       replace HB := Aside0.mk (below_drew1 HB.out)
       have p332 : 0 ≤ (x11_1 : Int) := of_decide_eq_true (by first | (with_reducible assumption) | assumption)
       have q332 : x11_1 < (x5_1.length : Int) := of_decide_eq_true (by first | (with_reducible assumption) | assumption)
       obtain ⟨ad332, e332, hx332_0⟩ := Kd.at_int (Kd.R_reads' HO_5.out).2.2 x11_1 p332 q332
       cases e332
       replace p332 := eq_true p332
       replace q332 := eq_true q332
       have p333 : 0 ≤ (x11_1 : Int) := of_decide_eq_true (by first | (with_reducible assumption) | assumption)
       have q333 : x11_1 < (l1.length : Int) := of_decide_eq_true (by first | (with_reducible assumption) | assumption)
       obtain ⟨ad333, e333, hx333_0⟩ := Kd.at_int HR1.out x11_1 p333 q333
       have hw333_0 := hx333_0
       cases e333
       replace hx333_0 := (HB.out.cell (World.block_lt_of_cell? w _ hx333_0)).trans hx333_0
       replace p333 := eq_true p333
       replace q333 := eq_true q333
       have p10 : 0 ≤ (x11_1 : Int) := of_decide_eq_true (by first | (with_reducible assumption) | assumption)
       have q10 : (x11_1 : Int) < ((x5_1.length : Int) : Int) := of_decide_eq_true (by first | (with_reducible assumption) | assumption)
       obtain ⟨go10, co10, eo10, gb10, gl10, cl10, HG10⟩ := Kd.R_form HO_5.out (by omega)
       (first | cases eo10 | (injection eo10 with ea_ en_ ec_; (first | subst ea_ | (injection ea_ with ea_; subst ea_)); subst ec_; clear en_))
       have GB10 := Aside0.mk gb10
       have GG10 := Aside0.mk HG10
       clear gb10 gl10 HG10
       (first | simp only [add_plain] at hx332_0 | skip)
       obtain ⟨hx10_0, hf10_0⟩ := Kd.R_celln 0 HO_5.out (x11_1 : Int) p10 q10
       replace p10 := eq_true p10
       replace q10 := eq_true q10
       have HP12 := Kd.R_putn HO_5.out (x11_1 : Int) (wrap64 ((rd x5_1 x11_1) + (rd l1 x11_1)))
       rw [← Ny334.out] at HP12
       have HQ12 := Aside0.mk HP12
       clear HP12
       refine start_ (n := 11) (S := fun w' => w'.cell? ⟨go10, (x11_1).toNat, none⟩ = some (.int .i64 (rd x5_1 x11_1)) ∧ w'.cell? (ad333.add (x11_1).toNat) = some (.int .i64 (rd l1 x11_1))) (ds := [10]) #[false, false, false, false, false, false, false, false, false, false, false] (by kernel_rfl) rfl rfl ⟨hx332_0, ((HB.out.cell (World.block_lt_of_cell? w _ hw333_0)).trans hw333_0)⟩ (fun hHeld => ?_); refine with_tabW impl_plus.tab5 impl_plus.bits5 (fun HT_ HW_ => ?_)
       generalize wr.drew = w11 at HO_5 HB GG10 HQ12 hf10_0 hx10_0 hx332_0 hx333_0 hHeld ⊢
       refine pureT_ 0 14 HT_ ?_
       refine pureT_ 1 15 HT_ ?_
       refine pureT_ 2 16 HT_ ?_
       refine pureT_ 4 18 HT_ ?_
       refine pureT_ 5 19 HT_ ?_
       refine pureT_ 6 20 HT_ ?_
       refine takeT_ 3 17 HT_ HW_ hHeld rfl (by rintro w' ⟨s0, s1⟩; go_simp; with_reducible rfl) ?_
       refine takeT_ 7 21 HT_ HW_ hHeld rfl (by rintro w' ⟨s0, s1⟩; go_simp; with_reducible rfl) ?_
       refine pureT_ 8 22 HT_ ?_
       refine pureT_ 9 23 HT_ ?_
       refine last_ (i := 10) (N := none) #[true, true, true, true, true, true, true, true, true, true, true] rfl rfl (one_of HT_.out (by kernel_rfl)) (by decide) (fun K hK => ?_)
       refine skip_ (w1 := ?_) (by rfl) rfl ?_ ?_
       rotate_left
       ·go_simp
        rfl
       refine hK.out _ _ ?_
       clear hK K
       refine done_ (done_of HT_.out (by kernel_rfl)) ?_
       try go_wp2
       (try simp only [← hl5_1])
       go_roundg k1
       case measure => have := HK1.out; omega
       case rel => exact ⟨(y334), (wrap64 (x11_1 + 1)), (by first | rfl | (simp; done) | (simp [*]; done)), H', ⟨by have := HK1.out; omega⟩, ⟨by (try simp only [hl5_1]); exact Rz HQ12⟩, ⟨by exact Lz1 HB GB10⟩⟩
      rw [if_neg c9] at H
      exact absurd H (by simp)
     rw [if_neg c8] at H
     exact absurd H (by simp)
    rw [if_neg c7] at H
    exact absurd H (by simp)
   rw [if_neg c6] at H
   have c6b0 : decide (x11_1 < (t329.length : Int)) = false := decide_eq_false c6
   (try simp only [hl5_1] at c6b0)
   clear c6
   obtain rfl := Option.some.inj H
   go_wp2
   go_ret
   exact ⟨_, by first | rfl | (simp [errW_none, errW_some] <;> rfl) | (simp [*, errW_none, errW_some] <;> rfl), by exact Rz HO_5, by exact Lz HB⟩
end Go.Proofs.Ytnebapnfkolflaa.P
end
section
namespace Go.Proofs.Ytnebapnfkolflaa.P
open Go.RowKit Go.Proofs.YtnebapnfkolflaaW.PrintWords Go.Proofs.YtnebapnfkolflaaW.PrintLast Go.Proofs.YtnebapnfkolflaaW.PrintMore
attribute [local go_sem] max2_int min2_int max_two min_two max_three min_three max_four min_four
set_option linter.unusedVariables false
set_option linter.unusedSimpArgs false
def impl_oneAt.f (a0_0 : Int) (l0_1 : List (S70)) (a1 : Int) (a2 : Int) : Option (List Int) := if 0 ≤ a0_0 then (if (a0_0 : Int).toNat ≤ 35184372088832 then ((some (List.replicate (a0_0 : Int).toNat 0 : List Int)).bind fun y336 => (if 0 ≤ a1 then (if a1 < (y336.length : Int) then (some (y336.set (a1 : Int).toNat a2)) else (none)) else (none))) else (none)) else (none)
set_option maxHeartbeats 8000000 in
set_option maxRecDepth 100000 in
theorem impl_oneAt.calls (a0_0 : Int) (A0_1 : Option Addr) (c0_1 : Nat) (l0_1 : List (S70)) (a1 : Int) (a2 : Int) (r : List Int) (w : World) (hr0_1 : Kd.C k70 w A0_1 l0_1.length l0_1) (hc0_1 : l0_1.length ≤ c0_1) (h : impl_oneAt.f a0_0 l0_1 a1 a2 = some r) :
  Calls Try.prog 84 #[.agg #[.int .i64 a0_0, .slice A0_1 l0_1.length c0_1], .int .i64 a1, .int .i64 a2] w fun e w' => ∃ v0_ : Value, e = .returned (v0_) ∧ Kd.R (Kd.int .i64) 3 w' w.heap.size (fun _ => True) v0_ r ∧ Below w.heap.size w w' := by
 have hu25 := Try.underlying25
 have HR0_1 := Aside0.mk hr0_1
 have HC0_1 := Aside0.mk hc0_1
 clear hr0_1 hc0_1
 have HB := Aside0.mk (Below.refl w.heap.size w)
 have H : (if 0 ≤ a0_0 then (if (a0_0 : Int).toNat ≤ 35184372088832 then ((some (List.replicate (a0_0 : Int).toNat 0 : List Int)).bind fun y336 => (if 0 ≤ a1 then (if a1 < (y336.length : Int) then (some (y336.set (a1 : Int).toNat a2)) else (none)) else (none))) else (none)) else (none)) = some r := h
 clear h
 by_cases c4 : 0 ≤ a0_0
 ·rw [if_pos c4] at H
  have c4b0 := eq_true c4
  have c4b1 : decide (0 ≤ a0_0) = true := decide_eq_true c4
  clear c4
  by_cases c5 : (a0_0 : Int).toNat ≤ 35184372088832
  ·rw [if_pos c5] at H
   have c5b0 := eq_true c5
   have c5b1 : decide ((a0_0 : Int).toNat ≤ 35184372088832) = true := decide_eq_true c5
   clear c5
   obtain ⟨y336, hy336⟩ : ∃ y_ : List Int, y_ = (List.replicate (a0_0 : Int).toNat 0) := ⟨_, rfl⟩
   replace H : (if 0 ≤ a1 then (if a1 < (y336.length : Int) then (some (y336.set (a1 : Int).toNat a2)) else (none)) else (none)) = some r := by first | (rw [hy336]; with_reducible exact H) | (have H2_ := (Option.bind_some _ _).symm.trans H; rw [hy336]; with_reducible exact H2_) | (have H2_ := (Option.bind_some _ _).symm.trans H; with_reducible exact H2_) | with_reducible exact H | (rw [hy336]; exact H) | exact H
   have Ny336 := Aside0.mk hy336
   clear hy336
   by_cases c6 : 0 ≤ a1
   ·rw [if_pos c6] at H
    have c6b0 : decide (0 ≤ a1) = true := decide_eq_true c6
    clear c6
    by_cases c7 : a1 < (y336.length : Int)
    ·rw [if_pos c7] at H
     have c7b0 : decide (a1 < (y336.length : Int)) = true := decide_eq_true c7
     clear c7
     obtain ⟨y339, hy339⟩ : ∃ y_ : List Int, y_ = (y336.set (a1 : Int).toNat a2) := ⟨_, rfl⟩
     replace H : (some y339) = some r := by first | (rw [hy339]; with_reducible exact H) | (have H2_ := (Option.bind_some _ _).symm.trans H; rw [hy339]; with_reducible exact H2_) | (have H2_ := (Option.bind_some _ _).symm.trans H; with_reducible exact H2_) | with_reducible exact H | (rw [hy339]; exact H) | exact H
     have Ny339 := Aside0.mk hy339
     clear hy339
     obtain rfl := Option.some.inj H
     go_enter Try.func84, Try.ntmps84
     go_wp2_with (first | ((with_reducible refine gate_dst (N := 3) rfl ?_); refine box_event ?hg (N := 3) ?hd (cs := #[.int .i64 a0_0, .slice A0_1 l0_1.length c0_1]) (t := 25) ?hr ?_; (case hd => rfl); (case hg => rfl); (case hr => first | (go_simp; done) | (go_simp; rfl)); intro gb335 hg w9 hbox hb; have BK335 := Aside0.mk (hbox); have GW335 := Aside0.mk ((by rw [hg]; exact (below_size (Lz HB)) : w.heap.size ≤ gb335)); have GE335 := Aside0.mk ((by rw [hg]; exact (below_size (Lz HB)) : w.heap.size ≤ gb335)); replace HB := Aside0.mk (below_step (Lz HB) hb); clear hb hbox hg; have hcz10_0 : w9.cell? ⟨gb335, 0, none⟩ = some (.int .i64 a0_0) := (blk_cell BK335.out 0).trans rfl; have hcz10_1 : w9.cell? ⟨gb335, 1, none⟩ = some (.slice A0_1 l0_1.length c0_1) := (blk_cell BK335.out 1).trans rfl; have hfz10_0 := blk_frozen BK335.out 0; have hfz10_1 := blk_frozen BK335.out 1) | ((with_reducible refine gate_dst (N := 10) rfl ?_); refine Kd.R_make (Kd.int .i64) _ 3 rfl (N := 10) rfl 27 _ _ rfl a0_0 rfl rfl Try.underlying27 (.int .i64 0) 8 info3 rfl (by decide) (by omega) 0 (ok := fun _ => True) (okp := fun _ => True) rfl (fun _ hk => hk) trivial (of_decide_eq_true (by first | (with_reducible assumption) | assumption)) (Nat.le_trans (Nat.mul_le_mul_right _ (of_decide_eq_true (by first | (with_reducible assumption) | assumption) : a0_0.toNat ≤ 35184372088832)) (by omega)) (Below.refl _ _) (Nat.le_refl _) ?_; intro v337 w11 ho12 hb hg_ hnew_; clear hg_ hnew_; (first | rw [← Ny336.out] at ho12 | (simp only [Int.reduceToNat] at ho12; rw [← Ny336.out] at ho12)); have HO338 := Aside0.mk (Kd.R_lower ho12 (below_size (by exact Lz1 HB GE335))); replace BK335 := Aside0.mk (blk_below (g := gb335) (o := .cells #[.int .i64 a0_0, .slice A0_1 l0_1.length c0_1] 25 (0, 0)) (Bz BK335) hb); replace HB := Aside0.mk (below_step (by exact Lz1 HB GE335) hb); clear hb ho12; have p8 : 0 ≤ (a1 : Int) := of_decide_eq_true (by first | (with_reducible assumption) | assumption); have q8 : (a1 : Int) < ((y336.length : Int) : Int) := of_decide_eq_true (by first | (with_reducible assumption) | assumption); obtain ⟨go8, co8, eo8, gb8, gl8, cl8, HG8⟩ := Kd.R_form HO338.out (by omega); (first | cases eo8 | (injection eo8 with ea_ en_ ec_; (first | subst ea_ | (injection ea_ with ea_; subst ea_)); subst ec_; clear en_)); have GB8 := Aside0.mk gb8; have GG8 := Aside0.mk HG8; clear gb8 gl8 HG8; obtain ⟨hx8_0, hf8_0⟩ := Kd.R_celln 0 HO338.out (a1 : Int) p8 q8; replace p8 := eq_true p8; replace q8 := eq_true q8; obtain ⟨hy13_, hz13_⟩ := Kd.R_celln 0 HO338.out (a1 : Int) (of_decide_eq_true (by first | (with_reducible assumption) | assumption)) (of_decide_eq_true (by first | (with_reducible assumption) | assumption)); have HP13 := Kd.R_putg HO338.out (a1 : Int) a2) | ((with_reducible refine gate_store (t := 3) (p := 14) rfl ?_); refine store_event (t := 3) (p := 14) (v := ?vo_w14) (w1 := (w11.setCell ⟨go8, (a1 : Int).toNat, none⟩ (.int .i64 a2))) ?hg ?ho ?hn ?hr ?_; (case ho => rfl); (case hg => rfl); (case hn => rfl); (case hr => first | (go_simp; done) | (go_simp; rfl)); intro w14 hw; have hg : w11.grownBy w14 (some go8) := (by rw [hw]; exact HP13.2); have hp_ : Kd.R (Kd.int .i64) 3 w14 w.heap.size (fun _ => True) (.slice (some ⟨go8, 0, none⟩) y336.length co8) y339 := (by rw [hw, Ny339.out]; exact HP13.1); clear HP13; replace BK335 := Aside0.mk (blk_grown (g := gb335) (o := .cells #[.int .i64 a0_0, .slice A0_1 l0_1.length c0_1] 25 (0, 0)) (Bz BK335) hg (Kd.R_ne HO338.out BK335.out (by decide))); replace HO338 := Aside0.mk (hp_); replace HB := Aside0.mk ((by rw [hw]; exact below_set (HB.out) GB8.out : Below w.heap.size w w14)); clear hg hw hp_))
     go_ret
     exact ⟨_, by first | rfl | (simp [errW_none, errW_some] <;> rfl) | (simp [*, errW_none, errW_some] <;> rfl), by exact Rz HO338, by exact Lz1 HB GE335⟩
    rw [if_neg c7] at H
    exact absurd H (by simp)
   rw [if_neg c6] at H
   exact absurd H (by simp)
  rw [if_neg c5] at H
  exact absurd H (by simp)
 rw [if_neg c4] at H
 exact absurd H (by simp)
end Go.Proofs.Ytnebapnfkolflaa.P
end
section
namespace Go.Proofs.Ytnebapnfkolflaa.P
open Go.RowKit Go.Proofs.YtnebapnfkolflaaW.PrintWords Go.Proofs.YtnebapnfkolflaaW.PrintLast Go.Proofs.YtnebapnfkolflaaW.PrintMore
attribute [local go_sem] max2_int min2_int max_two min_two max_three min_three max_four min_four
set_option linter.unusedVariables false
set_option linter.unusedSimpArgs false
def impl_DifferenceClass.j0 : Nat → Int → Int → Bool → Int → List (S70) → Option (List Int × Bool)
 | 0, _, _, _, _, _ => none
 | k + 1, x1, x2, x19, x341000, x341001 => if x19 = true then (some (([] : List Int), false)) else ((impl_oneAt.f x341000 x341001 x1 1).bind fun t343 => ((impl_oneAt.f x341000 x341001 x2 (-1)).bind fun t346 => ((impl_plus.f k t343 t346).bind fun t349 => ((impl_reduce.f k x341000 x341001 t349 0).bind fun bt352 => (some (bt352.1, true))))))
def impl_DifferenceClass.f (k : Nat) (a0_0 : Int) (l0_1 : List (S70)) (a1 : Int) (a2 : Int) : Option (List Int × Bool) := (impl_isVertex.f k a0_0 l0_1 a1).bind fun t341 => (if t341 = true then ((impl_isVertex.f k a0_0 l0_1 a2).bind fun t342 => (impl_DifferenceClass.j0 k a1 a2 (!t342) a0_0 l0_1)) else (impl_DifferenceClass.j0 k a1 a2 true a0_0 l0_1))
def impl_DifferenceClass.T3 : Bool × List (List Nat × List Nat) := (true, [([], []), ([], []), ([], []), ([1, 2], [1, 2]), ([], []), ([], []), ([4, 5, 3], [4, 5]), ([3, 6, 6], [3, 6]), ([0, 7, 7], [0, 7]), ([8], [8]), ([9], [9]), ([9], [9]), ([10, 8, 0, 1, 2, 3, 4, 5, 6, 7, 8, 9, 10], [10]), ([11, 12, 0, 1, 2, 3, 4, 5, 6, 7, 8, 9, 10, 11, 12], [11])])
def impl_DifferenceClass.B3 : List Nat := [0, 0, 0, 6, 0, 0, 62, 126, 255, 511, 1023, 1023, 2047, 8191]
theorem impl_DifferenceClass.tab3 : rtab .any (opsOf Try.f36 3) = impl_DifferenceClass.T3 := by kernel_rfl
theorem impl_DifferenceClass.bits3 : waitsOk impl_DifferenceClass.T3.2 impl_DifferenceClass.B3 = true := by kernel_rfl
set_option maxHeartbeats 8000000 in
set_option maxRecDepth 100000 in
theorem impl_DifferenceClass.calls (k : Nat) (a0_0 : Int) (A0_1 : Option Addr) (c0_1 : Nat) (l0_1 : List (S70)) (a1 : Int) (a2 : Int) (r1 : List Int) (r2 : Bool) (w : World) (hr0_1 : Kd.C k70 w A0_1 l0_1.length l0_1) (hc0_1 : l0_1.length ≤ c0_1) (h : impl_DifferenceClass.f k a0_0 l0_1 a1 a2 = some (r1, r2)) :
  Calls Try.prog 36 #[.agg #[.int .i64 a0_0, .slice A0_1 l0_1.length c0_1], .int .i64 a1, .int .i64 a2] w fun e w' => ∃ v0_ : Value, e = .returned (.tuple #[v0_, .bool r2]) ∧ Kd.R (Kd.int .i64) 3 w' w.heap.size (fun _ => True) v0_ r1 ∧ Below w.heap.size w w' := by
 have hu25 := Try.underlying25
 have HR0_1 := Aside0.mk hr0_1
 have HC0_1 := Aside0.mk hc0_1
 clear hr0_1 hc0_1
 have HB := Aside0.mk (Below.refl w.heap.size w)
 have H : ((impl_isVertex.f k a0_0 l0_1 a1).bind fun t341 => (if t341 = true then ((impl_isVertex.f k a0_0 l0_1 a2).bind fun t342 => (impl_DifferenceClass.j0 k a1 a2 (!t342) a0_0 l0_1)) else (impl_DifferenceClass.j0 k a1 a2 true a0_0 l0_1))) = some (r1, r2) := h
 clear h
 have HC4 := Aside0.mk H
 clear H
 go_enter Try.func36, Try.ntmps36
 go_upto_region 1 with (first | ((with_reducible refine gate_dst (N := 3) rfl ?_); refine box_event ?hg (N := 3) ?hd (cs := #[.int .i64 a0_0, .slice A0_1 l0_1.length c0_1]) (t := 25) ?hr ?_; (case hd => rfl); (case hg => rfl); (case hr => first | (go_simp; done) | (go_simp; rfl)); intro gb340 hg w5 hbox hb; have BK340 := Aside0.mk (hbox); have GW340 := Aside0.mk ((by rw [hg]; exact (below_size (Lz HB)) : w.heap.size ≤ gb340)); have GE340 := Aside0.mk ((by rw [hg]; exact (below_size (Lz HB)) : w.heap.size ≤ gb340)); replace HB := Aside0.mk (below_step (Lz HB) hb); clear hb hbox hg))
 (try simp only [Act.put, List.setIfInBounds_toArray, List.set_cons_zero, List.set_cons_succ])
 go_cut [19] (fun v19 wc => ∃ (kq : Nat) (x19_3 : Bool), v19 = .bool x19_3 ∧ Aside0 (impl_DifferenceClass.j0 kq a1 a2 x19_3 a0_0 l0_1 = some (r1, r2)) ∧ Aside0 (kq ≤ k) ∧ Aside0 (wc.heap[gb340]? = some (.cells #[.int .i64 a0_0, (.slice A0_1 l0_1.length c0_1)] 25 (0, 0))) ∧ Aside0 (Below w.heap.size w wc))
 case first =>
  have H := HC4.out
  clear HC4
  replace H := Option.bind_eq_some_iff.mp H
  obtain ⟨t341, A60, H⟩ := H
  replace H : (if t341 = true then ((impl_isVertex.f k a0_0 l0_1 a2).bind fun t342 => (impl_DifferenceClass.j0 k a1 a2 (!t342) a0_0 l0_1)) else (impl_DifferenceClass.j0 k a1 a2 true a0_0 l0_1)) = some (r1, r2) := H
  have A6 := Aside0.mk A60
  clear A60
  by_cases c7 : t341 = true
  ·subst c7
   have H1 : ((impl_isVertex.f k a0_0 l0_1 a2).bind fun t342 => (impl_DifferenceClass.j0 k a1 a2 (!t342) a0_0 l0_1)) = some (r1, r2) := by rw [if_pos rfl] at H; exact H
   clear H
   have H := H1
   clear H1
   replace H := Option.bind_eq_some_iff.mp H
   obtain ⟨t342, A80, H⟩ := H
   replace H : (impl_DifferenceClass.j0 k a1 a2 (!t342) a0_0 l0_1) = some (r1, r2) := H
   have A8 := Aside0.mk A80
   clear A80
   have H' := Aside0.mk H
   clear H
   have hcz9_0 : w5.cell? ⟨gb340, 0, none⟩ = some (.int .i64 a0_0) := (blk_cell BK340.out 0).trans rfl
   have hcz9_1 : w5.cell? ⟨gb340, 1, none⟩ = some (.slice A0_1 l0_1.length c0_1) := (blk_cell BK340.out 1).trans rfl
   have hfz9_0 := blk_frozen BK340.out 0
   have hfz9_1 := blk_frozen BK340.out 1
   go_wp2_with (first | ((with_reducible refine gate_callee (f := 81) rfl ?_); refine goesM_ (some 12) rfl rfl Try.func81 (by kernel_rfl) rfl #[.agg #[.int .i64 a0_0, .slice A0_1 l0_1.length c0_1], .int .i64 a1] rfl ?_; (with_reducible refine (impl_isVertex.calls k a0_0 _ _ l0_1 a1 true _ ?side1 ?side2 A6.out).mono ?_); (case side1 => exact Cz ((Kd.C_below HR0_1.out HB.out))); (case side2 => exact HC0_1.out); rintro e w10 ⟨rfl, hb⟩; refine ⟨_, rfl, ?_⟩; replace BK340 := Aside0.mk (blk_below (g := gb340) (o := .cells #[.int .i64 a0_0, .slice A0_1 l0_1.length c0_1] 25 (0, 0)) (Bz BK340) hb); replace HB := Aside0.mk (below_step (by exact Lz1 HB GE340) hb); (try clear hb); (try clear hb2); (try clear hk); (try clear hi); have hcz11_0 : w10.cell? ⟨gb340, 0, none⟩ = some (.int .i64 a0_0) := (blk_cell BK340.out 0).trans rfl; have hcz11_1 : w10.cell? ⟨gb340, 1, none⟩ = some (.slice A0_1 l0_1.length c0_1) := (blk_cell BK340.out 1).trans rfl; have hfz11_0 := blk_frozen BK340.out 0; have hfz11_1 := blk_frozen BK340.out 1) | (go_at_call 81; (with_reducible refine (impl_isVertex.calls k a0_0 _ _ l0_1 a2 t342 _ ?side1 ?side2 A8.out).mono ?_); (case side1 => exact Cz ((Kd.C_below HR0_1.out HB.out))); (case side2 => exact HC0_1.out); rintro e w12 ⟨rfl, hb⟩; replace BK340 := Aside0.mk (blk_below (g := gb340) (o := .cells #[.int .i64 a0_0, .slice A0_1 l0_1.length c0_1] 25 (0, 0)) (Bz BK340) hb); replace HB := Aside0.mk (below_step (by exact Lz1 HB GE340) hb); (try clear hb); (try clear hb2); (try clear hk); (try clear hi)))
   go_meet
   case rel => exact ⟨_, (!t342), (by first | rfl | (simp; done) | (simp [*]; done)), H', ⟨by first | omega | exact Nat.le_refl _⟩, ⟨by exact Bz BK340⟩, ⟨by exact Lz1 HB GE340⟩⟩
  replace c7 := Bool.eq_false_iff.mpr c7
  subst c7
  have H1 : (impl_DifferenceClass.j0 k a1 a2 true a0_0 l0_1) = some (r1, r2) := by rw [if_neg (show ¬ (false = true) by decide)] at H; exact H
  clear H
  have H := H1
  clear H1
  have H' := Aside0.mk H
  clear H
  have hcz13_0 : w5.cell? ⟨gb340, 0, none⟩ = some (.int .i64 a0_0) := (blk_cell BK340.out 0).trans rfl
  have hcz13_1 : w5.cell? ⟨gb340, 1, none⟩ = some (.slice A0_1 l0_1.length c0_1) := (blk_cell BK340.out 1).trans rfl
  have hfz13_0 := blk_frozen BK340.out 0
  have hfz13_1 := blk_frozen BK340.out 1
  go_wp2_with (first | ((with_reducible refine gate_callee (f := 81) rfl ?_); refine goesM_ (some 12) rfl rfl Try.func81 (by kernel_rfl) rfl #[.agg #[.int .i64 a0_0, .slice A0_1 l0_1.length c0_1], .int .i64 a1] rfl ?_; (with_reducible refine (impl_isVertex.calls k a0_0 _ _ l0_1 a1 false _ ?side1 ?side2 A6.out).mono ?_); (case side1 => exact Cz ((Kd.C_below HR0_1.out HB.out))); (case side2 => exact HC0_1.out); rintro e w14 ⟨rfl, hb⟩; refine ⟨_, rfl, ?_⟩; replace BK340 := Aside0.mk (blk_below (g := gb340) (o := .cells #[.int .i64 a0_0, .slice A0_1 l0_1.length c0_1] 25 (0, 0)) (Bz BK340) hb); replace HB := Aside0.mk (below_step (by exact Lz1 HB GE340) hb); (try clear hb); (try clear hb2); (try clear hk); (try clear hi)))
  go_meet
  case rel => exact ⟨_, (true), (by first | rfl | (simp; done) | (simp [*]; done)), H', ⟨by first | omega | exact Nat.le_refl _⟩, ⟨by exact Bz BK340⟩, ⟨by exact Lz1 HB GE340⟩⟩
 case rest =>
  clear HC4
  try clear c7
  obtain ⟨kq, x19_3, rfl, HA, HJ3, BK340, HB⟩ := hcut
  cases kq with
  | zero => exact absurd HA.out (by simp [impl_DifferenceClass.j0])
  | succ kj3 =>
   have H := HA.out
   clear HA
   simp only [impl_DifferenceClass.j0] at H
   by_cases c15 : x19_3 = true
   ·subst c15
    have H1 : (some (([] : List Int), false)) = some (r1, r2) := by rw [if_pos rfl] at H; exact H
    clear H
    have H := H1
    clear H1
    simp only [Option.some.injEq, Prod.mk.injEq] at H
    obtain ⟨rfl, rfl⟩ := H
    go_wp2
    go_ret2
    exact ⟨_, by first | rfl | (simp [errW_none, errW_some] <;> rfl) | (simp [*, errW_none, errW_some] <;> rfl), by first | exact Kd.R_nil _ _ _ _ _ | exact Kd.N_nil _ _ _ _ _ | exact Kd.V_nil _ _ _ _ _ | exact Kd.Q_nil _ _ _ _ _ | exact Kd.S_nil _ _ _ _ _, by exact Lz1 HB GE340⟩
   replace c15 := Bool.eq_false_iff.mpr c15
   subst c15
   have H1 : ((impl_oneAt.f a0_0 l0_1 a1 1).bind fun t343 => ((impl_oneAt.f a0_0 l0_1 a2 (-1)).bind fun t346 => ((impl_plus.f kj3 t343 t346).bind fun t349 => ((impl_reduce.f kj3 a0_0 l0_1 t349 0).bind fun bt352 => (some (bt352.1, true)))))) = some (r1, r2) := by rw [if_neg (show ¬ (false = true) by decide)] at H; exact H
   clear H
   have H := H1
   clear H1
   replace H := Option.bind_eq_some_iff.mp H
   obtain ⟨t343, A160, H⟩ := H
   replace H : ((impl_oneAt.f a0_0 l0_1 a2 (-1)).bind fun t346 => ((impl_plus.f kj3 t343 t346).bind fun t349 => ((impl_reduce.f kj3 a0_0 l0_1 t349 0).bind fun bt352 => (some (bt352.1, true))))) = some (r1, r2) := H
   have A16 := Aside0.mk A160
   clear A160
   replace H := Option.bind_eq_some_iff.mp H
   obtain ⟨t346, A170, H⟩ := H
   replace H : ((impl_plus.f kj3 t343 t346).bind fun t349 => ((impl_reduce.f kj3 a0_0 l0_1 t349 0).bind fun bt352 => (some (bt352.1, true)))) = some (r1, r2) := H
   have A17 := Aside0.mk A170
   clear A170
   replace H := Option.bind_eq_some_iff.mp H
   obtain ⟨t349, A180, H⟩ := H
   replace H : ((impl_reduce.f kj3 a0_0 l0_1 t349 0).bind fun bt352 => (some (bt352.1, true))) = some (r1, r2) := H
   have A18 := Aside0.mk A180
   clear A180
   replace H := Option.bind_eq_some_iff.mp H
   obtain ⟨⟨t352, t355⟩, A190, H⟩ := H
   replace H : (some (t352, true)) = some (r1, r2) := H
   have A19 := Aside0.mk A190
   clear A190
   simp only [Option.some.injEq, Prod.mk.injEq] at H
   obtain ⟨rfl, rfl⟩ := H
   try go_wp2
   replace BK340 := Aside0.mk (blk_drew BK340.out)
   replace HB := Aside0.mk (below_drew1 HB.out)
   refine start_ (n := 14) (S := fun w' => w'.cell? ⟨gb340, 0, none⟩ = some (.int .i64 a0_0) ∧ w'.cell? ⟨gb340, 1, none⟩ = some (.slice A0_1 l0_1.length c0_1)) (ds := []) #[false, false, false, false, false, false, false, false, false, false, false, false, false, false] (by kernel_rfl) rfl rfl ⟨(blk_cell BK340.out 0).trans rfl, (blk_cell BK340.out 1).trans rfl⟩ (fun hHeld => ?_); refine with_tabW impl_DifferenceClass.tab3 impl_DifferenceClass.bits3 (fun HT_ HW_ => ?_)
   generalize wc.drew = w20 at BK340 HB hHeld ⊢
   refine pureT_ 2 23 HT_ ?_
   refine pureT_ 5 26 HT_ ?_
   refine takeT_ 0 21 HT_ HW_ hHeld rfl (by rintro w' ⟨s0, s1⟩; go_simp; with_reducible rfl) ?_
   refine takeT_ 1 22 HT_ HW_ hHeld rfl (by rintro w' ⟨s0, s1⟩; go_simp; with_reducible rfl) ?_
   refine takeT_ 4 25 HT_ HW_ hHeld rfl (by rintro w' ⟨s0, s1⟩; go_simp; with_reducible rfl) ?_
   refine one_ (i := 3) (N := some 24) #[true, true, true, true, true, true, false, false, false, false, false, false, false, false] rfl rfl (one_of HT_.out (by kernel_rfl)) (by decide) (fun K hK => ?_)
   refine goes_ Try.func84 (by kernel_rfl) rfl #[.agg #[.int .i64 a0_0, .slice A0_1 l0_1.length c0_1], .int .i64 a1, .int .i64 1] (by rfl) rfl rfl (by (try simp only [List.map_toArray, List.map_cons, List.map_nil]); first | done | rfl | (simp only [List.length_drop, List.length_take]; rfl)) ?_
   with_reducible refine (impl_oneAt.calls a0_0 _ _ l0_1 a1 1 t343 _ ?side1 ?side2 A16.out).mono ?_
   (case side1 => exact Cz ((Kd.C_below HR0_1.out HB.out)))
   (case side2 => exact HC0_1.out)
   rintro e w21 ⟨v344, rfl, ho0, hb⟩
   refine ⟨_, rfl, ?_⟩
   have HO345 := Aside0.mk (Kd.R_lower ho0 (below_size (by exact Lz1 HB GE340)))
   replace BK340 := Aside0.mk (blk_below (g := gb340) (o := .cells #[.int .i64 a0_0, .slice A0_1 l0_1.length c0_1] 25 (0, 0)) (Bz BK340) hb)
   replace HB := Aside0.mk (below_step (by exact Lz1 HB GE340) hb)
   (try clear hb)
   (try clear hb2)
   (try clear hk)
   (try clear hi)
   (try clear ho0)
   refine hK.out _ _ ⟨(blk_cell BK340.out 0).trans rfl, (blk_cell BK340.out 1).trans rfl⟩ (fun hHeld => ?_)
   clear hK K
   refine norm_ (a' := ?_) ?_ ?_
   rotate_left
   ·show Act.put _ (some 24) _ = _
    simp only [Act.put, List.setIfInBounds_toArray, List.set_cons_zero, List.set_cons_succ, i64_w, i32_w]
    rfl
   refine one_ (i := 6) (N := some 27) #[true, true, true, true, true, true, true, false, false, false, false, false, false, false] rfl rfl (one_of HT_.out (by kernel_rfl)) (by decide) (fun K hK => ?_)
   refine goes_ Try.func84 (by kernel_rfl) rfl #[.agg #[.int .i64 a0_0, .slice A0_1 l0_1.length c0_1], .int .i64 a2, .int .i64 (-1)] (by rfl) rfl rfl (by (try simp only [List.map_toArray, List.map_cons, List.map_nil]); first | done | rfl | (simp only [List.length_drop, List.length_take]; rfl)) ?_
   with_reducible refine (impl_oneAt.calls a0_0 _ _ l0_1 a2 (-1) t346 _ ?side1 ?side2 A17.out).mono ?_
   (case side1 => exact Cz ((Kd.C_below HR0_1.out HB.out)))
   (case side2 => exact HC0_1.out)
   rintro e w22 ⟨v347, rfl, ho0, hb⟩
   refine ⟨_, rfl, ?_⟩
   have HO348 := Aside0.mk (Kd.R_lower (Kd.R_new' ho0 (Kd.R_lt (Rz HO345))) (below_size (by exact Lz1 HB GE340)))
   replace HO345 := Aside0.mk (Kd.R_elder' (Rz HO345) (Kd.R_base ho0) hb)
   replace BK340 := Aside0.mk (blk_below (g := gb340) (o := .cells #[.int .i64 a0_0, .slice A0_1 l0_1.length c0_1] 25 (0, 0)) (Bz BK340) hb)
   replace HB := Aside0.mk (below_step (by exact Lz1 HB GE340) hb)
   (try clear hb)
   (try clear hb2)
   (try clear hk)
   (try clear hi)
   (try clear ho0)
   obtain ⟨Ao23, co23, eo23⟩ := Kd.R_slice HO345.out
   (first | subst eo23 | (injection eo23 with f1_ f2_ f3_; have f4_ := f1_.symm; have f5_ := f3_.symm; clear f1_ f2_ f3_; subst f4_; subst f5_))
   obtain ⟨Ao24, co24, eo24⟩ := Kd.R_slice HO348.out
   (first | subst eo24 | (injection eo24 with f1_ f2_ f3_; have f4_ := f1_.symm; have f5_ := f3_.symm; clear f1_ f2_ f3_; subst f4_; subst f5_))
   refine hK.out _ _ ⟨(blk_cell BK340.out 0).trans rfl, (blk_cell BK340.out 1).trans rfl⟩ (fun hHeld => ?_)
   clear hK K
   refine norm_ (a' := ?_) ?_ ?_
   rotate_left
   ·show Act.put _ (some 27) _ = _
    simp only [Act.put, List.setIfInBounds_toArray, List.set_cons_zero, List.set_cons_succ, i64_w, i32_w]
    rfl
   refine one_ (i := 7) (N := some 28) #[true, true, true, true, true, true, true, true, false, false, false, false, false, false] rfl rfl (one_of HT_.out (by kernel_rfl)) (by decide) (fun K hK => ?_)
   refine goes_ Try.func83 (by kernel_rfl) rfl #[.slice Ao23 t343.length co23, .slice Ao24 t346.length co24] (by rfl) rfl rfl (by (try simp only [List.map_toArray, List.map_cons, List.map_nil]); first | done | rfl | (simp only [List.length_drop, List.length_take]; rfl)) ?_
   with_reducible refine (impl_plus.calls kj3 _ _ t343 _ _ t346 t349 _ ?side1 ?side2 ?side3 ?side4 A18.out).mono ?_
   (case side1 => exact Cz ((Kd.R_reads' HO345.out).2.2))
   (case side2 => exact (Kd.R_reads' HO345.out).2.1)
   (case side3 => exact Cz ((Kd.R_reads' HO348.out).2.2))
   (case side4 => exact (Kd.R_reads' HO348.out).2.1)
   rintro e w25 ⟨v350, rfl, ho0, hb⟩
   refine ⟨_, rfl, ?_⟩
   have HO351 := Aside0.mk (Kd.R_lower (Kd.R_new' (Kd.R_new' ho0 (Kd.R_lt (Rz HO345))) (Kd.R_lt (Rz HO348))) (below_size (by exact Lz1 HB GE340)))
   replace HO345 := Aside0.mk (Kd.R_elder' (Rz HO345) (Kd.R_base ho0) hb)
   replace HO348 := Aside0.mk (Kd.R_elder' (Rz HO348) (Kd.R_base ho0) hb)
   replace BK340 := Aside0.mk (blk_below (g := gb340) (o := .cells #[.int .i64 a0_0, .slice A0_1 l0_1.length c0_1] 25 (0, 0)) (Bz BK340) hb)
   replace HB := Aside0.mk (below_step (by exact Lz1 HB GE340) hb)
   (try clear hb)
   (try clear hb2)
   (try clear hk)
   (try clear hi)
   (try clear ho0)
   obtain ⟨Ao26, co26, eo26⟩ := Kd.R_slice HO351.out
   (first | subst eo26 | (injection eo26 with f1_ f2_ f3_; have f4_ := f1_.symm; have f5_ := f3_.symm; clear f1_ f2_ f3_; subst f4_; subst f5_))
   refine hK.out _ _ ⟨(blk_cell BK340.out 0).trans rfl, (blk_cell BK340.out 1).trans rfl⟩ (fun hHeld => ?_)
   clear hK K
   refine norm_ (a' := ?_) ?_ ?_
   rotate_left
   ·show Act.put _ (some 28) _ = _
    simp only [Act.put, List.setIfInBounds_toArray, List.set_cons_zero, List.set_cons_succ, i64_w, i32_w]
    rfl
   refine one_ (i := 8) (N := some 29) #[true, true, true, true, true, true, true, true, true, false, false, false, false, false] rfl rfl (one_of HT_.out (by kernel_rfl)) (by decide) (fun K hK => ?_)
   refine goes_ Try.func82 (by kernel_rfl) rfl #[.agg #[.int .i64 a0_0, .slice A0_1 l0_1.length c0_1], .slice Ao26 t349.length co26, .int .i64 0] (by rfl) rfl rfl (by (try simp only [List.map_toArray, List.map_cons, List.map_nil]); first | done | rfl | (simp only [List.length_drop, List.length_take]; rfl)) ?_
   with_reducible refine (impl_reduce.calls kj3 a0_0 _ _ l0_1 _ _ t349 0 t352 t355 _ ?side1 ?side2 ?side3 ?side4 A19.out).mono ?_
   (case side1 => exact Cz ((Kd.C_below HR0_1.out HB.out)))
   (case side2 => exact HC0_1.out)
   (case side3 => exact Cz ((Kd.R_reads' HO351.out).2.2))
   (case side4 => exact (Kd.R_reads' HO351.out).2.1)
   rintro e w27 ⟨v353, v356, rfl, ho0, ho1, hb⟩
   refine ⟨_, rfl, ?_⟩
   have HO354 := Aside0.mk (Kd.R_lower (Kd.R_new' (Kd.R_new' (Kd.R_new' ho0 (Kd.R_lt (Rz HO345))) (Kd.R_lt (Rz HO348))) (Kd.R_lt (Rz HO351))) (below_size (by exact Lz1 HB GE340)))
   have HO357 := Aside0.mk (Kd.R_lower (Kd.R_new' (Kd.R_new' (Kd.R_new' ho1 (Kd.R_lt (Rz HO345))) (Kd.R_lt (Rz HO348))) (Kd.R_lt (Rz HO351))) (below_size (by exact Lz1 HB GE340)))
   replace HO345 := Aside0.mk (Kd.R_mono (Kd.R_told (Kd.R_told (Kd.R_old (Rz HO345) hb) (Kd.R_base ho0)) (Kd.R_base ho1)) (fun _ h_ => h_.1))
   replace HO348 := Aside0.mk (Kd.R_mono (Kd.R_told (Kd.R_told (Kd.R_old (Rz HO348) hb) (Kd.R_base ho0)) (Kd.R_base ho1)) (fun _ h_ => h_.1))
   replace HO351 := Aside0.mk (Kd.R_mono (Kd.R_told (Kd.R_told (Kd.R_old (Rz HO351) hb) (Kd.R_base ho0)) (Kd.R_base ho1)) (fun _ h_ => h_.1))
   replace BK340 := Aside0.mk (blk_below (g := gb340) (o := .cells #[.int .i64 a0_0, .slice A0_1 l0_1.length c0_1] 25 (0, 0)) (Bz BK340) hb)
   replace HB := Aside0.mk (below_step (by exact Lz1 HB GE340) hb)
   (try clear hb)
   (try clear hb2)
   (try clear hk)
   (try clear hi)
   (try clear ho0)
   (try clear ho1)
   refine hK.out _ _ ⟨(blk_cell BK340.out 0).trans rfl, (blk_cell BK340.out 1).trans rfl⟩ (fun hHeld => ?_)
   clear hK K
   refine norm_ (a' := ?_) ?_ ?_
   rotate_left
   ·show Act.put _ (some 29) _ = _
    simp only [Act.put, List.setIfInBounds_toArray, List.set_cons_zero, List.set_cons_succ, i64_w, i32_w]
    rfl
   refine pureT_ 9 20 HT_ ?_
   refine pureT_ 10 30 HT_ ?_
   refine pureT_ 11 31 HT_ ?_
   refine pureT_ 12 8 HT_ ?_
   refine pureT_ 13 9 HT_ ?_
   refine done_ (done_of HT_.out (by kernel_rfl)) ?_
   try go_wp2
   go_ret2
   exact ⟨_, by first | rfl | (simp [errW_none, errW_some] <;> rfl) | (simp [*, errW_none, errW_some] <;> rfl), by (with_reducible repeat (first | apply Kd.R_alloc | apply Kd.R_drewN | apply Kd.R_drew)); exact Kd.R_mono HO354.out (fun _ hk => trivial), by exact Lz1 HB GE340⟩
end Go.Proofs.Ytnebapnfkolflaa.P
end
section
namespace Go.Proofs.Ytnebapnfkolflaa.P
open Go.RowKit Go.Proofs.YtnebapnfkolflaaW.PrintWords Go.Proofs.YtnebapnfkolflaaW.PrintLast Go.Proofs.YtnebapnfkolflaaW.PrintMore
attribute [local go_sem] max2_int min2_int max_two min_two max_three min_three max_four min_four
set_option linter.unusedVariables false
set_option linter.unusedSimpArgs false
mutual
def laws_FnExactDifferenceClass.j0 : Nat → Int → Int → Int → List (S95) → Option (Bool)
 | 0, _, _, _, _ => none
 | k + 1, x1, x2, x359000, x359001 => (laws_toGraph.f k x359000 x359001).bind fun bt360 => ((spec_DifferenceClass.f k bt360.1 bt360.2 x1 x2).bind fun bt364 => ((laws_toGraph.f k x359000 x359001).bind fun bt368 => ((impl_DifferenceClass.f k bt368.1 bt368.2 x1 x2).bind fun bt373 => ((laws_eqIntS.f k bt373.1 bt364.1).bind fun t377 => (if t377 = true then (laws_FnExactDifferenceClass.j1 k x1 x2 bt364.1 bt364.2 bt373.1 bt373.2 (bt373.2 != bt364.2) x359000 x359001 bt368.1 bt368.2) else (laws_FnExactDifferenceClass.j1 k x1 x2 bt364.1 bt364.2 bt373.1 bt373.2 true x359000 x359001 bt368.1 bt368.2))))))
def laws_FnExactDifferenceClass.j1 : Nat → Int → Int → List Int → Bool → List Int → Bool → Bool → Int → List (S95) → Int → List (S70) → Option (Bool)
 | 0, _, _, _, _, _, _, _, _, _, _, _ => none
 | k + 1, x1, x2, x8, x9, x11, x12, x48, x359000, x359001, x373000, x373001 => if x48 = true then (some false) else (laws_FnExactDifferenceClass.j2 k x1 x2 x8 x9 x11 x12 x359000 x359001 x373000 x373001)
def laws_FnExactDifferenceClass.j2 : Nat → Int → Int → List Int → Bool → List Int → Bool → Int → List (S95) → Int → List (S70) → Option (Bool)
 | 0, _, _, _, _, _, _, _, _, _, _ => none
 | k + 1, x1, x2, x8, x9, x11, x12, x359000, x359001, x373000, x373001 => (laws_toGraph.f k x359000 x359001).bind fun bt378 => ((laws_eqGraph.f k x373000 x373001 bt378.1 bt378.2).bind fun t382 => (if t382 = true then (laws_FnExactDifferenceClass.j3 k x1 x2 x8 x9 x11 x12 x359000 x359001 x373000 x373001) else (some false)))
def laws_FnExactDifferenceClass.j3 : Nat → Int → Int → List Int → Bool → List Int → Bool → Int → List (S95) → Int → List (S70) → Option (Bool)
 | 0, _, _, _, _, _, _, _, _, _, _ => none
 | k + 1, x1, x2, x8, x9, x11, x12, x359000, x359001, x373000, x373001 => (laws_markGraph.f k x373000 x373001 1).bind fun bt383 => (if bt383.1 < 0 then (laws_FnExactDifferenceClass.j4 k x1 x2 x8 x9 x11 true x359000 x359001) else ((laws_eqIntS.f k x11 x8).bind fun t385 => (if t385 = true then (laws_FnExactDifferenceClass.j4 k x1 x2 x8 x9 x11 (x12 != x9) x359000 x359001) else (laws_FnExactDifferenceClass.j4 k x1 x2 x8 x9 x11 true x359000 x359001))))
def laws_FnExactDifferenceClass.j4 : Nat → Int → Int → List Int → Bool → List Int → Bool → Int → List (S95) → Option (Bool)
 | 0, _, _, _, _, _, _, _, _ => none
 | k + 1, x1, x2, x8, x9, x11, x69, x359000, x359001 => if x69 = true then (some false) else (laws_FnExactDifferenceClass.j5 k x1 x2 x8 x9 x11 x359000 x359001)
def laws_FnExactDifferenceClass.j5 : Nat → Int → Int → List Int → Bool → List Int → Int → List (S95) → Option (Bool)
 | 0, _, _, _, _, _, _, _ => none
 | k + 1, x1, x2, x8, x9, x11, x359000, x359001 => (laws_markIntS.f k x11 1).bind fun bt386 => ((laws_heldIntS.f k bt386.2 1).bind fun t388 => (if t388 < 0 then (some false) else (laws_FnExactDifferenceClass.j6 k x1 x2 x8 x9 bt386.2 bt386.1 t388 x359000 x359001)))
def laws_FnExactDifferenceClass.j6 : Nat → Int → Int → List Int → Bool → List Int → Int → Int → Int → List (S95) → Option (Bool)
 | 0, _, _, _, _, _, _, _, _, _ => none
 | k + 1, x1, x2, x8, x9, x11, x14, x15, x359000, x359001 => if x15 = x14 then (laws_FnExactDifferenceClass.j7 k x1 x2 x8 x9 x11 x14 x359000 x359001) else (some false)
def laws_FnExactDifferenceClass.j7 : Nat → Int → Int → List Int → Bool → List Int → Int → Int → List (S95) → Option (Bool)
 | 0, _, _, _, _, _, _, _, _ => none
 | k + 1, x1, x2, x8, x9, x11, x14, x359000, x359001 => (laws_toGraph.f k x359000 x359001).bind fun bt389 => ((impl_DifferenceClass.f k bt389.1 bt389.2 x1 x2).bind fun bt393 => ((laws_eqIntS.f k bt393.1 x8).bind fun t397 => (if t397 = true then (laws_FnExactDifferenceClass.j8 k x11 x14 (bt393.2 != x9)) else (laws_FnExactDifferenceClass.j8 k x11 x14 true))))
def laws_FnExactDifferenceClass.j8 : Nat → List Int → Int → Bool → Option (Bool)
 | 0, _, _, _ => none
 | k + 1, x11, x14, x97 => if x97 = true then (some false) else (laws_FnExactDifferenceClass.j9 k x11 x14)
def laws_FnExactDifferenceClass.j9 : Nat → List Int → Int → Option (Bool)
 | 0, _, _ => none
 | k + 1, x11, x14 => (laws_heldIntS.f k x11 1).bind fun t398 => (if t398 < 0 then (some false) else (laws_FnExactDifferenceClass.j10 k x14 t398))
def laws_FnExactDifferenceClass.j10 : Nat → Int → Int → Option (Bool)
 | 0, _, _ => none
 | k + 1, x14, x15 => if x15 = x14 then (some true) else (some false)
end
def laws_FnExactDifferenceClass.f (k : Nat) (a0_0 : Int) (l0_1 : List (S95)) (a1 : Int) (a2 : Int) : Option (Bool) := (laws_szGraph.f a0_0 l0_1 1048576).bind fun t359 => (if t359 < 0 then (some true) else (laws_FnExactDifferenceClass.j0 k a1 a2 a0_0 l0_1))
set_option maxHeartbeats 8000000 in
set_option maxRecDepth 100000 in
theorem laws_FnExactDifferenceClass.calls (k : Nat) (a0_0 : Int) (A0_1 : Option Addr) (c0_1 : Nat) (l0_1 : List (S95)) (a1 : Int) (a2 : Int) (r : Bool) (w : World) (hr0_1 : Kd.C k95 w A0_1 l0_1.length l0_1) (hc0_1 : l0_1.length ≤ c0_1) (h : laws_FnExactDifferenceClass.f k a0_0 l0_1 a1 a2 = some r) :
  Calls Try.prog 7 #[.agg #[.int .i64 a0_0, .slice A0_1 l0_1.length c0_1], .int .i64 a1, .int .i64 a2] w fun e w' => e = .returned (.bool r) ∧ Below w.heap.size w w' := by
 have hu37 := Try.underlying37
 have hu25 := Try.underlying25
 have HR0_1 := Aside0.mk hr0_1
 have HC0_1 := Aside0.mk hc0_1
 clear hr0_1 hc0_1
 have HB := Aside0.mk (Below.refl w.heap.size w)
 have H : ((laws_szGraph.f a0_0 l0_1 1048576).bind fun t359 => (if t359 < 0 then (some true) else (laws_FnExactDifferenceClass.j0 k a1 a2 a0_0 l0_1))) = some r := h
 clear h
 replace H := Option.bind_eq_some_iff.mp H
 obtain ⟨t359, A40, H⟩ := H
 replace H : (if t359 < 0 then (some true) else (laws_FnExactDifferenceClass.j0 k a1 a2 a0_0 l0_1)) = some r := H
 have A4 := Aside0.mk A40
 clear A40
 have HC5 := Aside0.mk H
 clear H
 go_enter Try.func7, Try.ntmps7
 go_upto_if 22 with (first | ((with_reducible refine gate_dst (N := 3) rfl ?_); refine box_event ?hg (N := 3) ?hd (cs := #[.int .i64 a0_0, .slice A0_1 l0_1.length c0_1]) (t := 37) ?hr ?_; (case hd => rfl); (case hg => rfl); (case hr => first | (go_simp; done) | (go_simp; rfl)); intro gb358 hg w6 hbox hb; have BK358 := Aside0.mk (hbox); have GW358 := Aside0.mk ((by rw [hg]; exact (below_size (Lz HB)) : w.heap.size ≤ gb358)); have GE358 := Aside0.mk ((by rw [hg]; exact (below_size (Lz HB)) : w.heap.size ≤ gb358)); replace HB := Aside0.mk (below_step (Lz HB) hb); clear hb hbox hg; have hcz7_0 : w6.cell? ⟨gb358, 0, none⟩ = some (.int .i64 a0_0) := (blk_cell BK358.out 0).trans rfl; have hcz7_1 : w6.cell? ⟨gb358, 1, none⟩ = some (.slice A0_1 l0_1.length c0_1) := (blk_cell BK358.out 1).trans rfl; have hfz7_0 := blk_frozen BK358.out 0; have hfz7_1 := blk_frozen BK358.out 1) | ((with_reducible refine gate_callee (f := 23) rfl ?_); refine goesM_ (some 20) rfl rfl Try.func23 (by kernel_rfl) rfl #[.agg #[.int .i64 a0_0, .slice A0_1 l0_1.length c0_1], .int .i64 1048576] rfl ?_; (with_reducible refine (laws_szGraph.calls a0_0 _ _ l0_1 1048576 t359 _ ?side1 ?side2 A4.out).mono ?_); (case side1 => exact Cz ((Kd.C_below HR0_1.out HB.out))); (case side2 => exact HC0_1.out); rintro e w8 ⟨rfl, hb⟩; refine ⟨_, rfl, ?_⟩; replace BK358 := Aside0.mk (blk_below (g := gb358) (o := .cells #[.int .i64 a0_0, .slice A0_1 l0_1.length c0_1] 37 (0, 0)) (Bz BK358) hb); replace HB := Aside0.mk (below_step (by exact Lz1 HB GE358) hb); (try clear hb); (try clear hb2); (try clear hk); (try clear hi)))
 (try simp only [Act.put, List.setIfInBounds_toArray, List.set_cons_zero, List.set_cons_succ])
 go_cut [] (fun wc => ∃ (kq : Nat), Aside0 (laws_FnExactDifferenceClass.j0 kq a1 a2 a0_0 l0_1 = some r) ∧ Aside0 (kq ≤ k) ∧ Aside0 (wc.heap[gb358]? = some (.cells #[.int .i64 a0_0, (.slice A0_1 l0_1.length c0_1)] 37 (0, 0))) ∧ Aside0 (Below w.heap.size w wc))
 case first =>
  have H := HC5.out
  clear HC5
  by_cases c9 : t359 < 0
  ·rw [if_pos c9] at H
   have c9b0 : decide (t359 < 0) = true := decide_eq_true c9
   clear c9
   (first | rw [c9b0] | (simp only [i64_w, i32_w]; rw [c9b0]) | skip)
   obtain rfl := Option.some.inj H
   go_wp2
   go_ret
   exact ⟨by first | rfl | (simp [errW_none, errW_some] <;> rfl) | (simp [*, errW_none, errW_some] <;> rfl), by exact Lz1 HB GE358⟩
  rw [if_neg c9] at H
  have c9b0 : decide (t359 < 0) = false := decide_eq_false c9
  clear c9
  (first | rw [c9b0] | (simp only [i64_w, i32_w]; rw [c9b0]) | skip)
  have H' := Aside0.mk H
  clear H
  go_wp2
  go_meet
  case rel => exact ⟨_, H', ⟨by first | omega | exact Nat.le_refl _⟩, ⟨by exact Bz BK358⟩, ⟨by exact Lz1 HB GE358⟩⟩
 case rest =>
  clear HC5
  try clear c9
  try clear c9b0
  obtain ⟨kq, HA, HJ4, BK358, HB⟩ := hcut
  cases kq with
  | zero => exact absurd HA.out (by simp [laws_FnExactDifferenceClass.j0])
  | succ kj4 =>
   have H := HA.out
   clear HA
   simp only [laws_FnExactDifferenceClass.j0] at H
   replace H := Option.bind_eq_some_iff.mp H
   obtain ⟨⟨t360, t361⟩, A100, H⟩ := H
   replace H : ((spec_DifferenceClass.f kj4 t360 t361 a1 a2).bind fun bt364 => ((laws_toGraph.f kj4 a0_0 l0_1).bind fun bt368 => ((impl_DifferenceClass.f kj4 bt368.1 bt368.2 a1 a2).bind fun bt373 => ((laws_eqIntS.f kj4 bt373.1 bt364.1).bind fun t377 => (if t377 = true then (laws_FnExactDifferenceClass.j1 kj4 a1 a2 bt364.1 bt364.2 bt373.1 bt373.2 (bt373.2 != bt364.2) a0_0 l0_1 bt368.1 bt368.2) else (laws_FnExactDifferenceClass.j1 kj4 a1 a2 bt364.1 bt364.2 bt373.1 bt373.2 true a0_0 l0_1 bt368.1 bt368.2)))))) = some r := H
   have A10 := Aside0.mk A100
   clear A100
   replace H := Option.bind_eq_some_iff.mp H
   obtain ⟨⟨t364, t367⟩, A110, H⟩ := H
   replace H : ((laws_toGraph.f kj4 a0_0 l0_1).bind fun bt368 => ((impl_DifferenceClass.f kj4 bt368.1 bt368.2 a1 a2).bind fun bt373 => ((laws_eqIntS.f kj4 bt373.1 t364).bind fun t377 => (if t377 = true then (laws_FnExactDifferenceClass.j1 kj4 a1 a2 t364 t367 bt373.1 bt373.2 (bt373.2 != t367) a0_0 l0_1 bt368.1 bt368.2) else (laws_FnExactDifferenceClass.j1 kj4 a1 a2 t364 t367 bt373.1 bt373.2 true a0_0 l0_1 bt368.1 bt368.2))))) = some r := H
   have A11 := Aside0.mk A110
   clear A110
   replace H := Option.bind_eq_some_iff.mp H
   obtain ⟨⟨t368, t369⟩, A120, H⟩ := H
   replace H : ((impl_DifferenceClass.f kj4 t368 t369 a1 a2).bind fun bt373 => ((laws_eqIntS.f kj4 bt373.1 t364).bind fun t377 => (if t377 = true then (laws_FnExactDifferenceClass.j1 kj4 a1 a2 t364 t367 bt373.1 bt373.2 (bt373.2 != t367) a0_0 l0_1 t368 t369) else (laws_FnExactDifferenceClass.j1 kj4 a1 a2 t364 t367 bt373.1 bt373.2 true a0_0 l0_1 t368 t369)))) = some r := H
   have A12 := Aside0.mk A120
   clear A120
   replace H := Option.bind_eq_some_iff.mp H
   obtain ⟨⟨t373, t376⟩, A130, H⟩ := H
   replace H : ((laws_eqIntS.f kj4 t373 t364).bind fun t377 => (if t377 = true then (laws_FnExactDifferenceClass.j1 kj4 a1 a2 t364 t367 t373 t376 (t376 != t367) a0_0 l0_1 t368 t369) else (laws_FnExactDifferenceClass.j1 kj4 a1 a2 t364 t367 t373 t376 true a0_0 l0_1 t368 t369))) = some r := H
   have A13 := Aside0.mk A130
   clear A130
   have HC14 := Aside0.mk H
   clear H
   have hcz15_0 : wc.cell? ⟨gb358, 0, none⟩ = some (.int .i64 a0_0) := (blk_cell BK358.out 0).trans rfl
   have hcz15_1 : wc.cell? ⟨gb358, 1, none⟩ = some (.slice A0_1 l0_1.length c0_1) := (blk_cell BK358.out 1).trans rfl
   have hfz15_0 := blk_frozen BK358.out 0
   have hfz15_1 := blk_frozen BK358.out 1
   go_upto_region 8 with (first | ((with_reducible refine gate_callee (f := 25) rfl ?_); refine goesM_ (some 25) rfl rfl Try.func25 (by kernel_rfl) rfl #[.agg #[.int .i64 a0_0, .slice A0_1 l0_1.length c0_1]] rfl ?_; (with_reducible refine (laws_toGraph.calls kj4 a0_0 _ _ l0_1 t360 t361 _ ?side1 ?side2 A10.out).mono ?_); (case side1 => exact Cz ((Kd.C_below HR0_1.out HB.out))); (case side2 => exact HC0_1.out); rintro e w16 ⟨v362, rfl, ho0, hb⟩; refine ⟨_, rfl, ?_⟩; have HO363 := Aside0.mk (Kd.R_lower ho0 (below_size (by exact Lz1 HB GE358))); replace BK358 := Aside0.mk (blk_below (g := gb358) (o := .cells #[.int .i64 a0_0, .slice A0_1 l0_1.length c0_1] 37 (0, 0)) (Bz BK358) hb); replace HB := Aside0.mk (below_step (by exact Lz1 HB GE358) hb); (try clear hb); (try clear ho0); obtain ⟨Ao17, co17, eo17⟩ := Kd.R_slice HO363.out; subst eo17) | ((with_reducible refine gate_callee (f := 35) rfl ?_); refine goesM_ (some 28) rfl rfl Try.func35 (by kernel_rfl) rfl #[.agg #[.int .i64 t360, .slice Ao17 t361.length co17], .int .i64 a1, .int .i64 a2] rfl ?_; (with_reducible refine (spec_DifferenceClass.calls kj4 t360 _ _ t361 a1 a2 t364 t367 _ ?side1 ?side2 A11.out).mono ?_); (case side1 => exact Cz ((Kd.R_reads' HO363.out).2.2)); (case side2 => exact (Kd.R_reads' HO363.out).2.1); rintro e w18 ⟨v365, rfl, ho0, hb⟩; refine ⟨_, rfl, ?_⟩; replace HO363 := Aside0.mk (Kd.R_below (Rz HO363) hb); have HO366 := Aside0.mk (Kd.R_lower ho0 (below_size (by exact Lz1 HB GE358))); replace BK358 := Aside0.mk (blk_below (g := gb358) (o := .cells #[.int .i64 a0_0, .slice A0_1 l0_1.length c0_1] 37 (0, 0)) (Bz BK358) hb); replace HB := Aside0.mk (below_step (by exact Lz1 HB GE358) hb); (try clear hb); (try clear ho0); have hcz19_0 : w18.cell? ⟨gb358, 0, none⟩ = some (.int .i64 a0_0) := (blk_cell BK358.out 0).trans rfl; have hcz19_1 : w18.cell? ⟨gb358, 1, none⟩ = some (.slice A0_1 l0_1.length c0_1) := (blk_cell BK358.out 1).trans rfl; have hfz19_0 := blk_frozen BK358.out 0; have hfz19_1 := blk_frozen BK358.out 1) | ((with_reducible refine gate_callee (f := 25) rfl ?_); refine goesM_ (some 32) rfl rfl Try.func25 (by kernel_rfl) rfl #[.agg #[.int .i64 a0_0, .slice A0_1 l0_1.length c0_1]] rfl ?_; (with_reducible refine (laws_toGraph.calls kj4 a0_0 _ _ l0_1 t368 t369 _ ?side1 ?side2 A12.out).mono ?_); (case side1 => exact Cz ((Kd.C_below HR0_1.out HB.out))); (case side2 => exact HC0_1.out); rintro e w20 ⟨v370, rfl, ho0, hb⟩; refine ⟨_, rfl, ?_⟩; replace HO366 := Aside0.mk (Kd.R_below (Rz HO366) hb); have HO371 := Aside0.mk (Kd.R_lower (Kd.R_new' ho0 (Kd.R_lt (Rz HO363))) (below_size (by exact Lz1 HB GE358))); replace HO363 := Aside0.mk (Kd.R_elder' (Rz HO363) (Kd.R_base ho0) hb); replace BK358 := Aside0.mk (blk_below (g := gb358) (o := .cells #[.int .i64 a0_0, .slice A0_1 l0_1.length c0_1] 37 (0, 0)) (Bz BK358) hb); replace HB := Aside0.mk (below_step (by exact Lz1 HB GE358) hb); (try clear hb); (try clear ho0)) | ((with_reducible refine gate_dst (N := 10) rfl ?_); refine box_event ?hg (N := 10) ?hd (cs := #[.int .i64 0, .slice none 0 0]) (t := 25) ?hr ?_; (case hd => rfl); (case hg => rfl); (case hr => first | (go_simp; done) | (go_simp; rfl)); intro gb372 hg w21 hbox hb; replace HO363 := Aside0.mk (Kd.R_below (Rz HO363) hb); replace HO366 := Aside0.mk (Kd.R_below (Rz HO366) hb); replace HO371 := Aside0.mk (Kd.R_below (Rz HO371) hb); have BK372 := Aside0.mk (hbox); have GW372 := Aside0.mk ((by rw [hg]; exact (below_size (by exact Lz1 HB GE358)) : w.heap.size ≤ gb372)); have GE372 := Aside0.mk ((by rw [hg]; exact (below_size (by exact Lz1 HB GE358)) : w.heap.size ≤ gb372)); replace HB := Aside0.mk (below_step (by exact Lz1 HB GE358) hb); have NB358_372 := Aside0.mk ((by rw [hg]; exact Nat.ne_of_lt (blk_lt (g := gb358) (o := .cells #[.int .i64 a0_0, .slice A0_1 l0_1.length c0_1] 37 (0, 0)) (Bz BK358)) : gb358 ≠ gb372)); have NB372_358 := Aside0.mk ((by rw [hg]; exact Nat.ne_of_gt (blk_lt (g := gb358) (o := .cells #[.int .i64 a0_0, .slice A0_1 l0_1.length c0_1] 37 (0, 0)) (Bz BK358)) : gb372 ≠ gb358)); replace BK358 := Aside0.mk (blk_below (g := gb358) (o := .cells #[.int .i64 a0_0, .slice A0_1 l0_1.length c0_1] 37 (0, 0)) (Bz BK358) hb); clear hb hbox hg; have hnb22 := NB372_358.out; have hnc22 := NB358_372.out; have hcz23_0 : w21.cell? ⟨gb372, 0, none⟩ = some (.int .i64 0) := (blk_cell BK372.out 0).trans rfl; have hcz23_1 : w21.cell? ⟨gb372, 1, none⟩ = some (.slice none 0 0) := (blk_cell BK372.out 1).trans rfl; have hfz23_0 := blk_frozen BK372.out 0; have hfz23_1 := blk_frozen BK372.out 1; obtain ⟨Ao24, co24, eo24⟩ := Kd.R_slice HO371.out; subst eo24) | ((with_reducible refine gate_callee (f := 36) rfl ?_); refine goesM_ (some 37) rfl rfl Try.func36 (by kernel_rfl) rfl #[.agg #[.int .i64 t368, .slice Ao24 t369.length co24], .int .i64 a1, .int .i64 a2] rfl ?_; (with_reducible refine (impl_DifferenceClass.calls kj4 t368 _ _ t369 a1 a2 t373 t376 _ ?side1 ?side2 A13.out).mono ?_); (case side1 => refine (Kd.R_reads' (e := 70) (base := w.heap.size) (ok := fun k_ => (True ∧ some k_ ≠ (.slice Ao17 t361.length co17 : Value).ownBlock)) (n := t369.length) (c := co24) ?_).2.2; exact (by (with_reducible repeat (first | apply Kd.R_alloc | apply Kd.R_drewN | apply Kd.R_drew)); exact (Kd.R_mono (Kd.R_far (p := ⟨gb372, 1, none⟩) (Kd.R_far (p := ⟨gb372, 0, none⟩) (Kd.R_types HO371.out BK372.out (by decide)) (fun _ hk => hk.2) (.int .i64 t368)) (fun _ hk => hk.2) (.slice Ao24 t369.length co24)) (fun _ h_ => h_.1)))); (case side2 => exact (Kd.R_reads' HO371.out).2.1); rintro e w25 ⟨v374, rfl, ho0, hb⟩; refine ⟨_, rfl, ?_⟩; replace HO363 := Aside0.mk (Kd.R_below (by (with_reducible repeat (first | apply Kd.R_alloc | apply Kd.R_drewN | apply Kd.R_drew)); exact (Kd.R_mono (Kd.R_far (p := ⟨gb372, 1, none⟩) (Kd.R_far (p := ⟨gb372, 0, none⟩) (Kd.R_types HO363.out BK372.out (by decide)) (fun _ hk => hk.2) (.int .i64 t368)) (fun _ hk => hk.2) (.slice Ao24 t369.length co24)) (fun _ h_ => h_.1))) hb); replace HO371 := Aside0.mk (Kd.R_below (by (with_reducible repeat (first | apply Kd.R_alloc | apply Kd.R_drewN | apply Kd.R_drew)); exact (Kd.R_mono (Kd.R_far (p := ⟨gb372, 1, none⟩) (Kd.R_far (p := ⟨gb372, 0, none⟩) (Kd.R_types HO371.out BK372.out (by decide)) (fun _ hk => hk.2) (.int .i64 t368)) (fun _ hk => hk.2) (.slice Ao24 t369.length co24)) (fun _ h_ => h_.1))) hb); have HO375 := Aside0.mk (Kd.R_lower (Kd.R_new' ho0 (Kd.R_lt (by (with_reducible repeat (first | apply Kd.R_alloc | apply Kd.R_drewN | apply Kd.R_drew)); exact (Kd.R_mono (Kd.R_far (p := ⟨gb372, 1, none⟩) (Kd.R_far (p := ⟨gb372, 0, none⟩) (Kd.R_types HO366.out BK372.out (by decide)) (fun _ hk => hk.2) (.int .i64 t368)) (fun _ hk => hk.2) (.slice Ao24 t369.length co24)) (fun _ h_ => h_.1))))) (below_size (by exact Lz2 HB GE358 GE372))); replace HO366 := Aside0.mk (Kd.R_elder' (by (with_reducible repeat (first | apply Kd.R_alloc | apply Kd.R_drewN | apply Kd.R_drew)); exact (Kd.R_mono (Kd.R_far (p := ⟨gb372, 1, none⟩) (Kd.R_far (p := ⟨gb372, 0, none⟩) (Kd.R_types HO366.out BK372.out (by decide)) (fun _ hk => hk.2) (.int .i64 t368)) (fun _ hk => hk.2) (.slice Ao24 t369.length co24)) (fun _ h_ => h_.1))) (Kd.R_base ho0) hb); replace BK358 := Aside0.mk (blk_below (g := gb358) (o := .cells #[.int .i64 a0_0, .slice A0_1 l0_1.length c0_1] 37 (0, 0)) (by (with_reducible repeat (first | refine blk_drewN ?_ _ | refine blk_drew ?_ | refine blk_alloc ?_ _)); refine blk_far ?_ NB358_372.out _; (with_reducible repeat (first | refine blk_drewN ?_ _ | refine blk_drew ?_ | refine blk_alloc ?_ _)); refine blk_far ?_ NB358_372.out _; exact Bz BK358) hb); replace BK372 := Aside0.mk (blk_below (g := gb372) (o := .cells #[.int .i64 t368, .slice Ao24 t369.length co24] 25 (0, 0)) (by (with_reducible repeat (first | refine blk_drewN ?_ _ | refine blk_drew ?_ | refine blk_alloc ?_ _)); refine blk_put (cs := #[.int .i64 t368, .slice none 0 0]) ?_ 1 _ rfl; (with_reducible repeat (first | refine blk_drewN ?_ _ | refine blk_drew ?_ | refine blk_alloc ?_ _)); refine blk_put (cs := #[.int .i64 0, .slice none 0 0]) ?_ 0 _ rfl; exact Bz BK372) hb); replace HB := Aside0.mk (below_step (by exact Lz2 HB GE358 GE372) hb); (try clear hb); (try clear ho0)))
   (try simp only [Act.put, List.setIfInBounds_toArray, List.set_cons_zero, List.set_cons_succ])
   go_cut [48] (fun v48 wc => ∃ (kq : Nat) (x48_13 : Bool), v48 = .bool x48_13 ∧ Aside0 (laws_FnExactDifferenceClass.j1 kq a1 a2 t364 t367 t373 t376 x48_13 a0_0 l0_1 t368 t369 = some r) ∧ Aside0 (kq ≤ kj4) ∧ Aside0 (Kd.R (Kd.int .i64) 3 wc w.heap.size (fun k_ => some k_ ≠ (v374 : Value).ownBlock) v365 t364) ∧ Aside0 (Kd.R (Kd.int .i64) 3 wc w.heap.size (fun k_ => some k_ ≠ (v365 : Value).ownBlock) v374 t373) ∧ Aside0 (Kd.R k70 70 wc w.heap.size (fun _ => True) (.slice Ao24 t369.length co24) t369) ∧ Aside0 (wc.heap[gb358]? = some (.cells #[.int .i64 a0_0, (.slice A0_1 l0_1.length c0_1)] 37 (0, 0))) ∧ Aside0 (wc.heap[gb372]? = some (.cells #[.int .i64 t368, (.slice Ao24 t369.length co24)] 25 (0, 0))) ∧ Aside0 (Below w.heap.size w wc))
   case first =>
    have H := HC14.out
    clear HC14
    replace H := Option.bind_eq_some_iff.mp H
    obtain ⟨t377, A260, H⟩ := H
    replace H : (if t377 = true then (laws_FnExactDifferenceClass.j1 kj4 a1 a2 t364 t367 t373 t376 (t376 != t367) a0_0 l0_1 t368 t369) else (laws_FnExactDifferenceClass.j1 kj4 a1 a2 t364 t367 t373 t376 true a0_0 l0_1 t368 t369)) = some r := H
    have A26 := Aside0.mk A260
    clear A260
    by_cases c27 : t377 = true
    ·subst c27
     have H1 : (laws_FnExactDifferenceClass.j1 kj4 a1 a2 t364 t367 t373 t376 (t376 != t367) a0_0 l0_1 t368 t369) = some r := by rw [if_pos rfl] at H; exact H
     clear H
     have H := H1
     clear H1
     have H' := Aside0.mk H
     clear H
     obtain ⟨Ao28, co28, eo28⟩ := Kd.R_slice HO375.out
     subst eo28
     obtain ⟨Ao29, co29, eo29⟩ := Kd.R_slice HO366.out
     subst eo29
     go_wp2_with (first | ((with_reducible refine gate_callee (f := 28) rfl ?_); refine goesM_ (some 42) rfl rfl Try.func28 (by kernel_rfl) rfl #[.slice Ao28 t373.length co28, .slice Ao29 t364.length co29] rfl ?_; (with_reducible refine (laws_eqIntS.calls kj4 _ _ t373 _ _ t364 true _ ?side1 ?side2 ?side3 ?side4 A26.out).mono ?_); (case side1 => exact Cz ((Kd.R_reads' HO375.out).2.2)); (case side2 => exact (Kd.R_reads' HO375.out).2.1); (case side3 => exact Cz ((Kd.R_reads' HO366.out).2.2)); (case side4 => exact (Kd.R_reads' HO366.out).2.1); rintro e w' ⟨rfl, ⟨nd, rfl⟩⟩; refine ⟨_, rfl, ?_⟩))
     go_meet
     case rel => exact ⟨_, ((t376 != t367)), (by first | rfl | (simp; done) | (simp [*]; done)), H', ⟨by have := HJ4.out; first | omega | exact Nat.le_refl _⟩, ⟨by (with_reducible repeat (first | apply Kd.R_alloc | apply Kd.R_drewN | apply Kd.R_drew)); exact Kd.R_mono HO366.out (fun _ hk => hk.2)⟩, ⟨by (with_reducible repeat (first | apply Kd.R_alloc | apply Kd.R_drewN | apply Kd.R_drew)); exact Kd.R_mono HO375.out (fun _ hk => hk.2)⟩, ⟨by (with_reducible repeat (first | apply Kd.R_alloc | apply Kd.R_drewN | apply Kd.R_drew)); exact Kd.R_mono HO371.out (fun _ hk => trivial)⟩, ⟨by exact Bz BK358⟩, ⟨by exact Bz BK372⟩, ⟨by exact Lz2 HB GE358 GE372⟩⟩
    replace c27 := Bool.eq_false_iff.mpr c27
    subst c27
    have H1 : (laws_FnExactDifferenceClass.j1 kj4 a1 a2 t364 t367 t373 t376 true a0_0 l0_1 t368 t369) = some r := by rw [if_neg (show ¬ (false = true) by decide)] at H; exact H
    clear H
    have H := H1
    clear H1
    have H' := Aside0.mk H
    clear H
    obtain ⟨Ao30, co30, eo30⟩ := Kd.R_slice HO375.out
    subst eo30
    obtain ⟨Ao31, co31, eo31⟩ := Kd.R_slice HO366.out
    subst eo31
    go_wp2_with (first | ((with_reducible refine gate_callee (f := 28) rfl ?_); refine goesM_ (some 42) rfl rfl Try.func28 (by kernel_rfl) rfl #[.slice Ao30 t373.length co30, .slice Ao31 t364.length co31] rfl ?_; (with_reducible refine (laws_eqIntS.calls kj4 _ _ t373 _ _ t364 false _ ?side1 ?side2 ?side3 ?side4 A26.out).mono ?_); (case side1 => exact Cz ((Kd.R_reads' HO375.out).2.2)); (case side2 => exact (Kd.R_reads' HO375.out).2.1); (case side3 => exact Cz ((Kd.R_reads' HO366.out).2.2)); (case side4 => exact (Kd.R_reads' HO366.out).2.1); rintro e w' ⟨rfl, ⟨nd, rfl⟩⟩; refine ⟨_, rfl, ?_⟩))
    go_meet
    case rel => exact ⟨_, (true), (by first | rfl | (simp; done) | (simp [*]; done)), H', ⟨by have := HJ4.out; first | omega | exact Nat.le_refl _⟩, ⟨by (with_reducible repeat (first | apply Kd.R_alloc | apply Kd.R_drewN | apply Kd.R_drew)); exact Kd.R_mono HO366.out (fun _ hk => hk.2)⟩, ⟨by (with_reducible repeat (first | apply Kd.R_alloc | apply Kd.R_drewN | apply Kd.R_drew)); exact Kd.R_mono HO375.out (fun _ hk => hk.2)⟩, ⟨by (with_reducible repeat (first | apply Kd.R_alloc | apply Kd.R_drewN | apply Kd.R_drew)); exact Kd.R_mono HO371.out (fun _ hk => trivial)⟩, ⟨by exact Bz BK358⟩, ⟨by exact Bz BK372⟩, ⟨by exact Lz2 HB GE358 GE372⟩⟩
   case rest =>
    clear HC14
    try clear c9
    try clear c9b0
    try clear c27
    obtain ⟨kq, x48_13, rfl, HA, HJ13, HO_8, HO_11, HO_373001, BK358, BK372, HB⟩ := hcut
    cases kq with
    | zero => exact absurd HA.out (by simp [laws_FnExactDifferenceClass.j1])
    | succ kj13 =>
     have H := HA.out
     clear HA
     simp only [laws_FnExactDifferenceClass.j1] at H
     have HC32 := Aside0.mk H
     clear H
     go_upto_if 48 with (fail)
     go_cut [] (fun wc => ∃ (kq : Nat), Aside0 (laws_FnExactDifferenceClass.j2 kq a1 a2 t364 t367 t373 t376 a0_0 l0_1 t368 t369 = some r) ∧ Aside0 (kq ≤ kj13) ∧ Aside0 (Kd.R (Kd.int .i64) 3 wc w.heap.size (fun k_ => some k_ ≠ (v374 : Value).ownBlock) v365 t364) ∧ Aside0 (Kd.R (Kd.int .i64) 3 wc w.heap.size (fun k_ => some k_ ≠ (v365 : Value).ownBlock) v374 t373) ∧ Aside0 (Kd.R k70 70 wc w.heap.size (fun _ => True) (.slice Ao24 t369.length co24) t369) ∧ Aside0 (wc.heap[gb358]? = some (.cells #[.int .i64 a0_0, (.slice A0_1 l0_1.length c0_1)] 37 (0, 0))) ∧ Aside0 (wc.heap[gb372]? = some (.cells #[.int .i64 t368, (.slice Ao24 t369.length co24)] 25 (0, 0))) ∧ Aside0 (Below w.heap.size w wc))
     case first =>
      have H := HC32.out
      clear HC32
      by_cases c33 : x48_13 = true
      ·subst c33
       have H1 : (some false) = some r := by rw [if_pos rfl] at H; exact H
       clear H
       have H := H1
       clear H1
       obtain rfl := Option.some.inj H
       go_wp2
       go_ret
       exact ⟨by first | rfl | (simp [errW_none, errW_some] <;> rfl) | (simp [*, errW_none, errW_some] <;> rfl), by exact Lz2 HB GE358 GE372⟩
      replace c33 := Bool.eq_false_iff.mpr c33
      subst c33
      have H1 : (laws_FnExactDifferenceClass.j2 kj13 a1 a2 t364 t367 t373 t376 a0_0 l0_1 t368 t369) = some r := by rw [if_neg (show ¬ (false = true) by decide)] at H; exact H
      clear H
      have H := H1
      clear H1
      have H' := Aside0.mk H
      clear H
      go_wp2
      go_meet
      case rel => exact ⟨_, H', ⟨by have := HJ4.out; have := HJ13.out; first | omega | exact Nat.le_refl _⟩, ⟨by exact Rz HO_8⟩, ⟨by exact Rz HO_11⟩, ⟨by exact Rz HO_373001⟩, ⟨by exact Bz BK358⟩, ⟨by exact Bz BK372⟩, ⟨by exact Lz2 HB GE358 GE372⟩⟩
     case rest =>
      clear HC32
      try clear c9
      try clear c9b0
      try clear c27
      try clear c33
      obtain ⟨kq, HA, HJ31, HO_8, HO_11, HO_373001, BK358, BK372, HB⟩ := hcut
      cases kq with
      | zero => exact absurd HA.out (by simp [laws_FnExactDifferenceClass.j2])
      | succ kj31 =>
       have H := HA.out
       clear HA
       simp only [laws_FnExactDifferenceClass.j2] at H
       replace H := Option.bind_eq_some_iff.mp H
       obtain ⟨⟨t378, t379⟩, A340, H⟩ := H
       replace H : ((laws_eqGraph.f kj31 t368 t369 t378 t379).bind fun t382 => (if t382 = true then (laws_FnExactDifferenceClass.j3 kj31 a1 a2 t364 t367 t373 t376 a0_0 l0_1 t368 t369) else (some false))) = some r := H
       have A34 := Aside0.mk A340
       clear A340
       replace H := Option.bind_eq_some_iff.mp H
       obtain ⟨t382, A350, H⟩ := H
       replace H : (if t382 = true then (laws_FnExactDifferenceClass.j3 kj31 a1 a2 t364 t367 t373 t376 a0_0 l0_1 t368 t369) else (some false)) = some r := H
       have A35 := Aside0.mk A350
       clear A350
       have HC36 := Aside0.mk H
       clear H
       try go_wp2
       replace HO_8 := Aside0.mk (Kd.R_drew HO_8.out)
       replace HO_11 := Aside0.mk (Kd.R_drew HO_11.out)
       replace HO_373001 := Aside0.mk (Kd.R_drew HO_373001.out)
       replace BK358 := Aside0.mk (blk_drew BK358.out)
       replace BK372 := Aside0.mk (blk_drew BK372.out)
       replace HB := Aside0.mk (below_drew1 HB.out)
       refine start_ (n := 5) (S := fun w' => w'.cell? ⟨gb372, 0, none⟩ = some (.int .i64 t368) ∧ w'.cell? ⟨gb372, 1, none⟩ = some (.slice Ao24 t369.length co24) ∧ w'.cell? ⟨gb358, 0, none⟩ = some (.int .i64 a0_0) ∧ w'.cell? ⟨gb358, 1, none⟩ = some (.slice A0_1 l0_1.length c0_1)) (ds := []) #[false, false, false, false, false] (by kernel_rfl) rfl rfl ⟨(blk_cell BK372.out 0).trans rfl, (blk_cell BK372.out 1).trans rfl, (blk_cell BK358.out 0).trans rfl, (blk_cell BK358.out 1).trans rfl⟩ (fun hHeld => ?_)
       generalize wc.drew = w37 at HO_8 HO_11 HO_373001 BK358 BK372 HB hHeld ⊢
       refine take_ (i := 0) (N := some 49) (v := ?_) (a' := ?_) #[true, false, false, false, false] rfl rfl (by kernel_rfl) (fun _ _ _ h => h) (Or.inl ⟨by rfl, ?_⟩) hHeld ?_ ?_
       rotate_left
       ·rintro w' ⟨s0, s1, s2, s3⟩
        go_simp
        with_reducible rfl
       rotate_left
       ·simp only [Act.put, List.setIfInBounds_toArray, List.set_cons_zero, List.set_cons_succ, i64_w, i32_w]
        rfl
       refine take_ (i := 1) (N := some 50) (v := ?_) (a' := ?_) #[true, true, false, false, false] rfl rfl (by kernel_rfl) (fun _ _ _ h => h) (Or.inl ⟨by rfl, ?_⟩) hHeld ?_ ?_
       rotate_left
       ·rintro w' ⟨s0, s1, s2, s3⟩
        go_simp
        with_reducible rfl
       rotate_left
       ·simp only [Act.put, List.setIfInBounds_toArray, List.set_cons_zero, List.set_cons_succ, i64_w, i32_w]
        rfl
       refine one_ (i := 2) (N := some 51) #[true, true, true, false, false] rfl rfl (by kernel_rfl) (by decide) (fun K hK => ?_)
       refine goes_ Try.func25 (by kernel_rfl) rfl #[.agg #[.int .i64 a0_0, .slice A0_1 l0_1.length c0_1]] (by rfl) rfl rfl (by (try simp only [List.map_toArray, List.map_cons, List.map_nil]); first | done | rfl | (simp only [List.length_drop, List.length_take]; rfl)) ?_
       with_reducible refine (laws_toGraph.calls kj31 a0_0 _ _ l0_1 t378 t379 _ ?side1 ?side2 A34.out).mono ?_
       (case side1 => exact Cz ((Kd.C_below HR0_1.out HB.out)))
       (case side2 => exact HC0_1.out)
       rintro e w38 ⟨v380, rfl, ho0, hb⟩
       refine ⟨_, rfl, ?_⟩
       replace HO_8 := Aside0.mk (Kd.R_below (Rz HO_8) hb)
       replace HO_11 := Aside0.mk (Kd.R_below (Rz HO_11) hb)
       have HO381 := Aside0.mk (Kd.R_lower (Kd.R_new' ho0 (Kd.R_lt (Rz HO_373001))) (below_size (by exact Lz2 HB GE358 GE372)))
       replace HO_373001 := Aside0.mk (Kd.R_elder' (Rz HO_373001) (Kd.R_base ho0) hb)
       replace BK358 := Aside0.mk (blk_below (g := gb358) (o := .cells #[.int .i64 a0_0, .slice A0_1 l0_1.length c0_1] 37 (0, 0)) (Bz BK358) hb)
       replace BK372 := Aside0.mk (blk_below (g := gb372) (o := .cells #[.int .i64 t368, .slice Ao24 t369.length co24] 25 (0, 0)) (Bz BK372) hb)
       replace HB := Aside0.mk (below_step (by exact Lz2 HB GE358 GE372) hb)
       (try clear hb)
       (try clear hb2)
       (try clear hk)
       (try clear hi)
       (try clear ho0)
       obtain ⟨Ao39, co39, eo39⟩ := Kd.R_slice HO381.out
       (first | subst eo39 | (injection eo39 with f1_ f2_ f3_; have f4_ := f1_.symm; have f5_ := f3_.symm; clear f1_ f2_ f3_; subst f4_; subst f5_))
       refine hK.out _ _ ⟨(blk_cell BK372.out 0).trans rfl, (blk_cell BK372.out 1).trans rfl, (blk_cell BK358.out 0).trans rfl, (blk_cell BK358.out 1).trans rfl⟩ (fun hHeld => ?_)
       clear hK K
       refine norm_ (a' := ?_) ?_ ?_
       rotate_left
       ·show Act.put _ (some 51) _ = _
        simp only [Act.put, List.setIfInBounds_toArray, List.set_cons_zero, List.set_cons_succ, i64_w, i32_w]
        rfl
       refine one_ (i := 3) (N := some 52) #[true, true, true, true, false] rfl rfl (by kernel_rfl) (by decide) (fun K hK => ?_)
       refine goes_ Try.func29 (by kernel_rfl) rfl #[.agg #[.int .i64 t368, .slice Ao24 t369.length co24], .agg #[.int .i64 t378, .slice Ao39 t379.length co39]] (by rfl) rfl rfl (by (try simp only [List.map_toArray, List.map_cons, List.map_nil]); first | done | rfl | (simp only [List.length_drop, List.length_take]; rfl)) ?_
       with_reducible refine (laws_eqGraph.calls kj31 t368 _ _ t369 t378 _ _ t379 t382 _ ?side1 ?side2 ?side3 ?side4 A35.out).mono ?_
       (case side1 => exact Cz ((Kd.R_reads' HO_373001.out).2.2))
       (case side2 => exact (Kd.R_reads' HO_373001.out).2.1)
       (case side3 => exact Cz ((Kd.R_reads' HO381.out).2.2))
       (case side4 => exact (Kd.R_reads' HO381.out).2.1)
       rintro e w40 ⟨rfl, hb⟩
       refine ⟨_, rfl, ?_⟩
       replace HO_8 := Aside0.mk (Kd.R_below (Rz HO_8) hb)
       replace HO_11 := Aside0.mk (Kd.R_below (Rz HO_11) hb)
       replace HO_373001 := Aside0.mk (Kd.R_below (Rz HO_373001) hb)
       replace HO381 := Aside0.mk (Kd.R_below (Rz HO381) hb)
       replace BK358 := Aside0.mk (blk_below (g := gb358) (o := .cells #[.int .i64 a0_0, .slice A0_1 l0_1.length c0_1] 37 (0, 0)) (Bz BK358) hb)
       replace BK372 := Aside0.mk (blk_below (g := gb372) (o := .cells #[.int .i64 t368, .slice Ao24 t369.length co24] 25 (0, 0)) (Bz BK372) hb)
       replace HB := Aside0.mk (below_step (by exact Lz2 HB GE358 GE372) hb)
       (try clear hb)
       (try clear hb2)
       (try clear hk)
       (try clear hi)
       refine hK.out _ _ ⟨(blk_cell BK372.out 0).trans rfl, (blk_cell BK372.out 1).trans rfl, (blk_cell BK358.out 0).trans rfl, (blk_cell BK358.out 1).trans rfl⟩ (fun hHeld => ?_)
       clear hK K
       refine norm_ (a' := ?_) ?_ ?_
       rotate_left
       ·show Act.put _ (some 52) _ = _
        simp only [Act.put, List.setIfInBounds_toArray, List.set_cons_zero, List.set_cons_succ, i64_w, i32_w]
        rfl
       refine pure_ (i := 4) (N := some 53) (v := ?_) (a' := ?_) #[true, true, true, true, true] rfl rfl (by kernel_rfl) (fun _ _ _ h => h) (Or.inl ⟨by rfl, ?_⟩) ?_ ?_
       rotate_left
       ·intro w'
        go_simp
        with_reducible rfl
       rotate_left
       ·simp only [Act.put, List.setIfInBounds_toArray, List.set_cons_zero, List.set_cons_succ, i64_w, i32_w]
        rfl
       refine done_ (by kernel_rfl) ?_
       go_upto_if 53 with (fail)
       go_cut [] (fun wc => ∃ (kq : Nat), Aside0 (laws_FnExactDifferenceClass.j3 kq a1 a2 t364 t367 t373 t376 a0_0 l0_1 t368 t369 = some r) ∧ Aside0 (kq ≤ kj31) ∧ Aside0 (Kd.R (Kd.int .i64) 3 wc w.heap.size (fun k_ => some k_ ≠ (v374 : Value).ownBlock) v365 t364) ∧ Aside0 (Kd.R (Kd.int .i64) 3 wc w.heap.size (fun k_ => some k_ ≠ (v365 : Value).ownBlock) v374 t373) ∧ Aside0 (Kd.R k70 70 wc w.heap.size (fun _ => True) (.slice Ao24 t369.length co24) t369) ∧ Aside0 (wc.heap[gb358]? = some (.cells #[.int .i64 a0_0, (.slice A0_1 l0_1.length c0_1)] 37 (0, 0))) ∧ Aside0 (wc.heap[gb372]? = some (.cells #[.int .i64 t368, (.slice Ao24 t369.length co24)] 25 (0, 0))) ∧ Aside0 (Below w.heap.size w wc))
       case first =>
        have H := HC36.out
        clear HC36
        by_cases c41 : t382 = true
        ·subst c41
         have H1 : (laws_FnExactDifferenceClass.j3 kj31 a1 a2 t364 t367 t373 t376 a0_0 l0_1 t368 t369) = some r := by rw [if_pos rfl] at H; exact H
         clear H
         have H := H1
         clear H1
         have H' := Aside0.mk H
         clear H
         go_wp2
         go_meet
         case rel => exact ⟨_, H', ⟨by have := HJ4.out; have := HJ13.out; have := HJ31.out; first | omega | exact Nat.le_refl _⟩, ⟨by exact Rz HO_8⟩, ⟨by exact Rz HO_11⟩, ⟨by (with_reducible repeat (first | apply Kd.R_alloc | apply Kd.R_drewN | apply Kd.R_drew)); exact Kd.R_mono HO_373001.out (fun _ hk => trivial)⟩, ⟨by exact Bz BK358⟩, ⟨by exact Bz BK372⟩, ⟨by exact Lz2 HB GE358 GE372⟩⟩
        replace c41 := Bool.eq_false_iff.mpr c41
        subst c41
        have H1 : (some false) = some r := by rw [if_neg (show ¬ (false = true) by decide)] at H; exact H
        clear H
        have H := H1
        clear H1
        obtain rfl := Option.some.inj H
        go_wp2
        go_ret
        exact ⟨by first | rfl | (simp [errW_none, errW_some] <;> rfl) | (simp [*, errW_none, errW_some] <;> rfl), by exact Lz2 HB GE358 GE372⟩
       case rest =>
        clear HC36
        try clear c9
        try clear c9b0
        try clear c27
        try clear c33
        try clear c41
        obtain ⟨kq, HA, HJ35, HO_8, HO_11, HO_373001, BK358, BK372, HB⟩ := hcut
        cases kq with
        | zero => exact absurd HA.out (by simp [laws_FnExactDifferenceClass.j3])
        | succ kj35 =>
         have H := HA.out
         clear HA
         simp only [laws_FnExactDifferenceClass.j3] at H
         replace H := Option.bind_eq_some_iff.mp H
         obtain ⟨⟨t383, t384⟩, A420, H⟩ := H
         replace H : (if t383 < 0 then (laws_FnExactDifferenceClass.j4 kj35 a1 a2 t364 t367 t373 true a0_0 l0_1) else ((laws_eqIntS.f kj35 t373 t364).bind fun t385 => (if t385 = true then (laws_FnExactDifferenceClass.j4 kj35 a1 a2 t364 t367 t373 (t376 != t367) a0_0 l0_1) else (laws_FnExactDifferenceClass.j4 kj35 a1 a2 t364 t367 t373 true a0_0 l0_1)))) = some r := H
         have A42 := Aside0.mk A420
         clear A420
         have HC43 := Aside0.mk H
         clear H
         have hnb44 := NB372_358.out
         have hnc44 := NB358_372.out
         have hcz45_0 : wc.cell? ⟨gb372, 0, none⟩ = some (.int .i64 t368) := (blk_cell BK372.out 0).trans rfl
         have hcz45_1 : wc.cell? ⟨gb372, 1, none⟩ = some (.slice Ao24 t369.length co24) := (blk_cell BK372.out 1).trans rfl
         have hfz45_0 := blk_frozen BK372.out 0
         have hfz45_1 := blk_frozen BK372.out 1
         go_upto_region 14 with (first | ((with_reducible refine gate_callee (f := 30) rfl ?_); refine goesM_ (some 56) rfl rfl Try.func30 (by kernel_rfl) rfl #[.agg #[.int .i64 t368, .slice Ao24 t369.length co24], .int .i64 1] rfl ?_; (with_reducible refine (laws_markGraph.calls kj35 t368 (fun k_ => some k_ = (.slice Ao24 t369.length co24 : Value).ownBlock) (.slice Ao24 t369.length co24) t369 1 t383 t384 w _ ?side1 ?side2 A42.out).mono ?_); (case side1 => exact Lz2 HB GE358 GE372); (case side2 => exact Kd.R_tight rfl HO_373001.out); rintro e w46 ⟨rfl, hy0, hb, hkp⟩; refine ⟨_, rfl, ?_⟩; replace HO_8 := Aside0.mk (Kd.R_mono (ok' := fun k_ => some k_ ≠ (v374 : Value).ownBlock) (Kd.R_keptB ((Kd.R_apart' HO_8.out (Kd.R_typed HO_373001.out) (by decide))) hkp (fun k_ hk_ hs_ => (hk_.2) hs_)) (fun k_ hk_ => hk_.1.1)); replace HO_11 := Aside0.mk (Kd.R_mono (ok' := fun k_ => some k_ ≠ (v365 : Value).ownBlock) (Kd.R_keptB ((Kd.R_apart' HO_11.out (Kd.R_typed HO_373001.out) (by decide))) hkp (fun k_ hk_ hs_ => (hk_.2) hs_)) (fun k_ hk_ => hk_.1.1)); replace BK358 := Aside0.mk (blk_kept (Bz BK358) hkp (fun hs_ => (fun e_ => (Kd.R_ne HO_373001.out BK358.out (by decide)) e_) hs_)); replace BK372 := Aside0.mk (blk_kept (Bz BK372) hkp (fun hs_ => (fun e_ => (Kd.R_ne HO_373001.out BK372.out (by decide)) e_) hs_)); replace HO_373001 := Aside0.mk (Kd.R_reok rfl hy0 (fun k_ e_ => HO_373001.out.1 k_ e_)); replace HB := Aside0.mk (hb); (try clear hb); (try clear hkp); (try clear hy0)))
         (try simp only [Act.put, List.setIfInBounds_toArray, List.set_cons_zero, List.set_cons_succ])
         go_cut [69] (fun v69 wc => ∃ (kq : Nat) (x69_42 : Bool), v69 = .bool x69_42 ∧ Aside0 (laws_FnExactDifferenceClass.j4 kq a1 a2 t364 t367 t373 x69_42 a0_0 l0_1 = some r) ∧ Aside0 (kq ≤ kj35) ∧ Aside0 (Kd.R (Kd.int .i64) 3 wc w.heap.size (fun k_ => some k_ ≠ (v374 : Value).ownBlock) v365 t364) ∧ Aside0 (Kd.R (Kd.int .i64) 3 wc w.heap.size (fun k_ => some k_ ≠ (v365 : Value).ownBlock) v374 t373) ∧ Aside0 (Kd.R k70 70 wc w.heap.size (fun _ => True) (.slice Ao24 t369.length co24) t384) ∧ Aside0 (wc.heap[gb358]? = some (.cells #[.int .i64 a0_0, (.slice A0_1 l0_1.length c0_1)] 37 (0, 0))) ∧ Aside0 (wc.heap[gb372]? = some (.cells #[.int .i64 t368, (.slice Ao24 t369.length co24)] 25 (0, 0))) ∧ Aside0 (Below w.heap.size w wc))
         case first =>
          have H := HC43.out
          clear HC43
          by_cases c47 : t383 < 0
          ·rw [if_pos c47] at H
           have c47b0 : decide (t383 < 0) = true := decide_eq_true c47
           clear c47
           (first | rw [c47b0] | (simp only [i64_w, i32_w]; rw [c47b0]) | skip)
           have H' := Aside0.mk H
           clear H
           go_wp2
           go_meet
           case rel => exact ⟨_, (true), (by first | rfl | (simp; done) | (simp [*]; done)), H', ⟨by have := HJ4.out; have := HJ13.out; have := HJ31.out; have := HJ35.out; first | omega | exact Nat.le_refl _⟩, ⟨by exact Rz HO_8⟩, ⟨by exact Rz HO_11⟩, ⟨by exact Rz HO_373001⟩, ⟨by exact Bz BK358⟩, ⟨by exact Bz BK372⟩, ⟨by exact Lz2 HB GE358 GE372⟩⟩
          rw [if_neg c47] at H
          have c47b0 : decide (t383 < 0) = false := decide_eq_false c47
          clear c47
          (first | rw [c47b0] | (simp only [i64_w, i32_w]; rw [c47b0]) | skip)
          replace H := Option.bind_eq_some_iff.mp H
          obtain ⟨t385, A480, H⟩ := H
          replace H : (if t385 = true then (laws_FnExactDifferenceClass.j4 kj35 a1 a2 t364 t367 t373 (t376 != t367) a0_0 l0_1) else (laws_FnExactDifferenceClass.j4 kj35 a1 a2 t364 t367 t373 true a0_0 l0_1)) = some r := H
          have A48 := Aside0.mk A480
          clear A480
          by_cases c49 : t385 = true
          ·subst c49
           have H1 : (laws_FnExactDifferenceClass.j4 kj35 a1 a2 t364 t367 t373 (t376 != t367) a0_0 l0_1) = some r := by rw [if_pos rfl] at H; exact H
           clear H
           have H := H1
           clear H1
           have H' := Aside0.mk H
           clear H
           obtain ⟨Ao50, co50, eo50⟩ := Kd.R_slice HO_11.out
           subst eo50
           obtain ⟨Ao51, co51, eo51⟩ := Kd.R_slice HO_8.out
           subst eo51
           go_wp2_with (first | (go_at_call 28; (with_reducible refine (laws_eqIntS.calls kj35 _ _ t373 _ _ t364 true _ ?side1 ?side2 ?side3 ?side4 A48.out).mono ?_); (case side1 => exact Cz ((Kd.R_reads' HO_11.out).2.2)); (case side2 => exact (Kd.R_reads' HO_11.out).2.1); (case side3 => exact Cz ((Kd.R_reads' HO_8.out).2.2)); (case side4 => exact (Kd.R_reads' HO_8.out).2.1); rintro e w' ⟨rfl, ⟨nd, rfl⟩⟩))
           go_meet
           case rel => exact ⟨_, ((t376 != t367)), (by first | rfl | (simp; done) | (simp [*]; done)), H', ⟨by have := HJ4.out; have := HJ13.out; have := HJ31.out; have := HJ35.out; first | omega | exact Nat.le_refl _⟩, ⟨by exact Rz HO_8⟩, ⟨by exact Rz HO_11⟩, ⟨by exact Rz HO_373001⟩, ⟨by exact Bz BK358⟩, ⟨by exact Bz BK372⟩, ⟨by exact Lz2 HB GE358 GE372⟩⟩
          replace c49 := Bool.eq_false_iff.mpr c49
          subst c49
          have H1 : (laws_FnExactDifferenceClass.j4 kj35 a1 a2 t364 t367 t373 true a0_0 l0_1) = some r := by rw [if_neg (show ¬ (false = true) by decide)] at H; exact H
          clear H
          have H := H1
          clear H1
          have H' := Aside0.mk H
          clear H
          obtain ⟨Ao52, co52, eo52⟩ := Kd.R_slice HO_11.out
          subst eo52
          obtain ⟨Ao53, co53, eo53⟩ := Kd.R_slice HO_8.out
          subst eo53
          go_wp2_with (first | (go_at_call 28; (with_reducible refine (laws_eqIntS.calls kj35 _ _ t373 _ _ t364 false _ ?side1 ?side2 ?side3 ?side4 A48.out).mono ?_); (case side1 => exact Cz ((Kd.R_reads' HO_11.out).2.2)); (case side2 => exact (Kd.R_reads' HO_11.out).2.1); (case side3 => exact Cz ((Kd.R_reads' HO_8.out).2.2)); (case side4 => exact (Kd.R_reads' HO_8.out).2.1); rintro e w' ⟨rfl, ⟨nd, rfl⟩⟩))
          go_meet
          case rel => exact ⟨_, (true), (by first | rfl | (simp; done) | (simp [*]; done)), H', ⟨by have := HJ4.out; have := HJ13.out; have := HJ31.out; have := HJ35.out; first | omega | exact Nat.le_refl _⟩, ⟨by exact Rz HO_8⟩, ⟨by exact Rz HO_11⟩, ⟨by exact Rz HO_373001⟩, ⟨by exact Bz BK358⟩, ⟨by exact Bz BK372⟩, ⟨by exact Lz2 HB GE358 GE372⟩⟩
         case rest =>
          clear HC43
          try clear c9
          try clear c9b0
          try clear c27
          try clear c33
          try clear c41
          try clear c47
          try clear c47b0
          try clear c49
          obtain ⟨kq, x69_42, rfl, HA, HJ42, HO_8, HO_11, HO_373001, BK358, BK372, HB⟩ := hcut
          have hl373001_42 := (Kd.R_reads' HO_373001.out).1
          rw [hl373001_42] at HO_373001
          (try simp only [hl373001_42])
          (try simp only [hl373001_42] at BK358)
          (try simp only [hl373001_42] at BK372)
          (try simp only [hl373001_42] at HO_8)
          (try simp only [hl373001_42] at HO_11)
          cases kq with
          | zero => exact absurd HA.out (by simp [laws_FnExactDifferenceClass.j4])
          | succ kj42 =>
           have H := HA.out
           clear HA
           simp only [laws_FnExactDifferenceClass.j4] at H
           have HC54 := Aside0.mk H
           clear H
           go_upto_if 69 with (fail)
           go_cut [] (fun wc => ∃ (kq : Nat), Aside0 (laws_FnExactDifferenceClass.j5 kq a1 a2 t364 t367 t373 a0_0 l0_1 = some r) ∧ Aside0 (kq ≤ kj42) ∧ Aside0 (Kd.R (Kd.int .i64) 3 wc w.heap.size (fun k_ => some k_ ≠ (v374 : Value).ownBlock) v365 t364) ∧ Aside0 (Kd.R (Kd.int .i64) 3 wc w.heap.size (fun k_ => some k_ ≠ (v365 : Value).ownBlock) v374 t373) ∧ Aside0 (Kd.R k70 70 wc w.heap.size (fun _ => True) (.slice Ao24 t384.length co24) t384) ∧ Aside0 (wc.heap[gb358]? = some (.cells #[.int .i64 a0_0, (.slice A0_1 l0_1.length c0_1)] 37 (0, 0))) ∧ Aside0 (wc.heap[gb372]? = some (.cells #[.int .i64 t368, (.slice Ao24 t384.length co24)] 25 (0, 0))) ∧ Aside0 (Below w.heap.size w wc))
           case first =>
            have H := HC54.out
            clear HC54
            by_cases c55 : x69_42 = true
            ·subst c55
             have H1 : (some false) = some r := by rw [if_pos rfl] at H; exact H
             clear H
             have H := H1
             clear H1
             obtain rfl := Option.some.inj H
             go_wp2
             go_ret
             exact ⟨by first | rfl | (simp [errW_none, errW_some] <;> rfl) | (simp [*, errW_none, errW_some] <;> rfl), by exact Lz2 HB GE358 GE372⟩
            replace c55 := Bool.eq_false_iff.mpr c55
            subst c55
            have H1 : (laws_FnExactDifferenceClass.j5 kj42 a1 a2 t364 t367 t373 a0_0 l0_1) = some r := by rw [if_neg (show ¬ (false = true) by decide)] at H; exact H
            clear H
            have H := H1
            clear H1
            have H' := Aside0.mk H
            clear H
            go_wp2
            go_meet
            case rel => exact ⟨_, H', ⟨by have := HJ4.out; have := HJ13.out; have := HJ31.out; have := HJ35.out; have := HJ42.out; first | omega | exact Nat.le_refl _⟩, ⟨by (try simp only [hl373001_42]); exact Rz HO_8⟩, ⟨by (try simp only [hl373001_42]); exact Rz HO_11⟩, ⟨by (try simp only [hl373001_42]); exact Rz HO_373001⟩, ⟨by (try simp only [hl373001_42]); exact Bz BK358⟩, ⟨by (try simp only [hl373001_42]); exact Bz BK372⟩, ⟨by exact Lz2 HB GE358 GE372⟩⟩
           case rest =>
            clear HC54
            try clear c9
            try clear c9b0
            try clear c27
            try clear c33
            try clear c41
            try clear c47
            try clear c47b0
            try clear c49
            try clear c55
            obtain ⟨kq, HA, HJ53, HO_8, HO_11, HO_373001, BK358, BK372, HB⟩ := hcut
            cases kq with
            | zero => exact absurd HA.out (by simp [laws_FnExactDifferenceClass.j5])
            | succ kj53 =>
             have H := HA.out
             clear HA
             simp only [laws_FnExactDifferenceClass.j5] at H
             replace H := Option.bind_eq_some_iff.mp H
             obtain ⟨⟨t386, t387⟩, A560, H⟩ := H
             replace H : ((laws_heldIntS.f kj53 t387 1).bind fun t388 => (if t388 < 0 then (some false) else (laws_FnExactDifferenceClass.j6 kj53 a1 a2 t364 t367 t387 t386 t388 a0_0 l0_1))) = some r := H
             have A56 := Aside0.mk A560
             clear A560
             replace H := Option.bind_eq_some_iff.mp H
             obtain ⟨t388, A570, H⟩ := H
             replace H : (if t388 < 0 then (some false) else (laws_FnExactDifferenceClass.j6 kj53 a1 a2 t364 t367 t387 t386 t388 a0_0 l0_1)) = some r := H
             have A57 := Aside0.mk A570
             clear A570
             have HC58 := Aside0.mk H
             clear H
             obtain ⟨Ao59, co59, eo59⟩ := Kd.R_slice HO_11.out
             subst eo59
             go_upto_if 77 with (first | ((with_reducible refine gate_callee (f := 31) rfl ?_); refine goesM_ (some 72) rfl rfl Try.func31 (by kernel_rfl) rfl #[.slice Ao59 t373.length co59, .int .i64 1] rfl ?_; (with_reducible refine (laws_markIntS.calls kj53 (fun k_ => some k_ = (.slice Ao59 t373.length co59 : Value).ownBlock) (.slice Ao59 t373.length co59) t373 1 t386 t387 w _ ?side1 ?side2 A56.out).mono ?_); (case side1 => exact Lz2 HB GE358 GE372); (case side2 => exact Kd.R_tight rfl HO_11.out); rintro e w60 ⟨rfl, hy0, hb, hkp⟩; refine ⟨_, rfl, ?_⟩; replace HO_8 := Aside0.mk (Kd.R_mono (ok' := fun k_ => some k_ ≠ (.slice Ao59 t373.length co59 : Value).ownBlock) (Kd.R_keptB (HO_8.out) hkp (fun k_ hk_ hs_ => (hk_) hs_)) (fun k_ hk_ => hk_.1)); replace HO_373001 := Aside0.mk (Kd.R_mono (ok' := fun k_ => True) (Kd.R_keptB ((Kd.R_apart' HO_373001.out (Kd.R_typed HO_11.out) (by decide))) hkp (fun k_ hk_ hs_ => (hk_.2) hs_)) (fun k_ hk_ => trivial)); replace BK358 := Aside0.mk (blk_kept (Bz BK358) hkp (fun hs_ => (fun e_ => (Kd.R_ne HO_11.out BK358.out (by decide)) e_) hs_)); replace BK372 := Aside0.mk (blk_kept (Bz BK372) hkp (fun hs_ => (fun e_ => (Kd.R_ne HO_11.out BK372.out (by decide)) e_) hs_)); replace HO_11 := Aside0.mk (Kd.R_reok rfl hy0 (fun k_ e_ => HO_11.out.1 k_ e_)); replace HB := Aside0.mk (hb); (try clear hb); (try clear hkp); (try clear hy0)) | ((with_reducible refine gate_callee (f := 32) rfl ?_); refine goesL_ (some 75) rfl rfl Try.func32 (by kernel_rfl) rfl #[.slice Ao59 t387.length co59, .int .i64 1] rfl (by (try simp only [List.map_toArray, List.map_cons, List.map_nil]); first | done | (rw [show t387.length = t373.length from (Kd.R_reads' HO_11.out).1.symm] <;> rfl) | rfl | (simp only [List.length_drop, List.length_take]; rfl)) ?_; (with_reducible refine (laws_heldIntS.calls kj53 _ _ t387 1 t388 _ ?side1 ?side2 A57.out).mono ?_); (case side1 => exact Cz ((Kd.R_reads' HO_11.out).2.2)); (case side2 => rw [show t387.length = t373.length from (Kd.R_reads' HO_11.out).1.symm]; exact (Kd.R_reads' HO_11.out).2.1); rintro e w' ⟨rfl, ⟨nd, rfl⟩⟩; refine ⟨_, rfl, ?_⟩))
             (try simp only [Act.put, List.setIfInBounds_toArray, List.set_cons_zero, List.set_cons_succ])
             go_cut [] (fun wc => ∃ (kq : Nat), Aside0 (laws_FnExactDifferenceClass.j6 kq a1 a2 t364 t367 t387 t386 t388 a0_0 l0_1 = some r) ∧ Aside0 (kq ≤ kj53) ∧ Aside0 (Kd.R (Kd.int .i64) 3 wc w.heap.size (fun k_ => some k_ ≠ ((.slice Ao59 t373.length co59) : Value).ownBlock) v365 t364) ∧ Aside0 (Kd.R (Kd.int .i64) 3 wc w.heap.size (fun k_ => some k_ ≠ (v365 : Value).ownBlock) (.slice Ao59 t373.length co59) t387) ∧ Aside0 (Kd.R k70 70 wc w.heap.size (fun _ => True) (.slice Ao24 t384.length co24) t384) ∧ Aside0 (wc.heap[gb358]? = some (.cells #[.int .i64 a0_0, (.slice A0_1 l0_1.length c0_1)] 37 (0, 0))) ∧ Aside0 (wc.heap[gb372]? = some (.cells #[.int .i64 t368, (.slice Ao24 t384.length co24)] 25 (0, 0))) ∧ Aside0 (Below w.heap.size w wc))
             case first =>
              have H := HC58.out
              clear HC58
              by_cases c61 : t388 < 0
              ·rw [if_pos c61] at H
               have c61b0 : decide (t388 < 0) = true := decide_eq_true c61
               clear c61
               (first | rw [c61b0] | (simp only [i64_w, i32_w]; rw [c61b0]) | skip)
               obtain rfl := Option.some.inj H
               go_wp2
               go_ret
               exact ⟨by first | rfl | (simp [errW_none, errW_some] <;> rfl) | (simp [*, errW_none, errW_some] <;> rfl), by exact Lz2 HB GE358 GE372⟩
              rw [if_neg c61] at H
              have c61b0 : decide (t388 < 0) = false := decide_eq_false c61
              clear c61
              (first | rw [c61b0] | (simp only [i64_w, i32_w]; rw [c61b0]) | skip)
              have H' := Aside0.mk H
              clear H
              go_wp2
              go_meet
              case rel => exact ⟨_, H', ⟨by have := HJ4.out; have := HJ13.out; have := HJ31.out; have := HJ35.out; have := HJ42.out; have := HJ53.out; first | omega | exact Nat.le_refl _⟩, ⟨by (try simp only [hl373001_42]); exact Rz HO_8⟩, ⟨by (try simp only [hl373001_42]); exact Rz HO_11⟩, ⟨by (try simp only [hl373001_42]); exact Rz HO_373001⟩, ⟨by (try simp only [hl373001_42]); exact Bz BK358⟩, ⟨by (try simp only [hl373001_42]); exact Bz BK372⟩, ⟨by exact Lz2 HB GE358 GE372⟩⟩
             case rest =>
              clear HC58
              try clear c9
              try clear c9b0
              try clear c27
              try clear c33
              try clear c41
              try clear c47
              try clear c47b0
              try clear c49
              try clear c55
              try clear c61
              try clear c61b0
              obtain ⟨kq, HA, HJ57, HO_8, HO_11, HO_373001, BK358, BK372, HB⟩ := hcut
              have hl11_57 := (Kd.R_reads' HO_11.out).1
              rw [hl11_57] at HO_11
              (try simp only [hl11_57])
              (try simp only [hl11_57] at BK358)
              (try simp only [hl11_57] at BK372)
              (try simp only [hl11_57] at HO_8)
              (try simp only [hl11_57] at HO_373001)
              cases kq with
              | zero => exact absurd HA.out (by simp [laws_FnExactDifferenceClass.j6])
              | succ kj57 =>
               have H := HA.out
               clear HA
               simp only [laws_FnExactDifferenceClass.j6] at H
               have HC62 := Aside0.mk H
               clear H
               go_upto_if 80 with (fail)
               go_cut [] (fun wc => ∃ (kq : Nat), Aside0 (laws_FnExactDifferenceClass.j7 kq a1 a2 t364 t367 t387 t386 a0_0 l0_1 = some r) ∧ Aside0 (kq ≤ kj57) ∧ Aside0 (Kd.R (Kd.int .i64) 3 wc w.heap.size (fun k_ => some k_ ≠ ((.slice Ao59 t387.length co59) : Value).ownBlock) v365 t364) ∧ Aside0 (Kd.R (Kd.int .i64) 3 wc w.heap.size (fun k_ => some k_ ≠ (v365 : Value).ownBlock) (.slice Ao59 t387.length co59) t387) ∧ Aside0 (Kd.R k70 70 wc w.heap.size (fun _ => True) (.slice Ao24 t384.length co24) t384) ∧ Aside0 (wc.heap[gb358]? = some (.cells #[.int .i64 a0_0, (.slice A0_1 l0_1.length c0_1)] 37 (0, 0))) ∧ Aside0 (wc.heap[gb372]? = some (.cells #[.int .i64 t368, (.slice Ao24 t384.length co24)] 25 (0, 0))) ∧ Aside0 (Below w.heap.size w wc))
               case first =>
                have H := HC62.out
                clear HC62
                by_cases c63 : t388 = t386
                ·rw [if_pos c63] at H
                 have c63b0 : (t388 == t386) = true := beq_iff_eq.mpr c63
                 have c63b1 : (t388 != t386) = false := bne_eq_false_iff_eq.mpr c63
                 clear c63
                 (first | rw [c63b0] | (simp only [i64_w, i32_w]; rw [c63b0]) | skip)
                 have H' := Aside0.mk H
                 clear H
                 go_wp2
                 go_meet
                 case rel => exact ⟨_, H', ⟨by have := HJ4.out; have := HJ13.out; have := HJ31.out; have := HJ35.out; have := HJ42.out; have := HJ53.out; have := HJ57.out; first | omega | exact Nat.le_refl _⟩, ⟨by (try simp only [hl373001_42]); (try simp only [hl11_57]); exact Rz HO_8⟩, ⟨by (try simp only [hl373001_42]); (try simp only [hl11_57]); exact Rz HO_11⟩, ⟨by (try simp only [hl373001_42]); (try simp only [hl11_57]); exact Rz HO_373001⟩, ⟨by (try simp only [hl373001_42]); (try simp only [hl11_57]); exact Bz BK358⟩, ⟨by (try simp only [hl373001_42]); (try simp only [hl11_57]); exact Bz BK372⟩, ⟨by exact Lz2 HB GE358 GE372⟩⟩
                rw [if_neg c63] at H
                have c63b0 : (t388 == t386) = false := beq_eq_false_iff_ne.mpr c63
                have c63b1 : (t388 != t386) = true := bne_iff_ne.mpr c63
                (first | rw [c63b0] | (simp only [i64_w, i32_w]; rw [c63b0]) | skip)
                obtain rfl := Option.some.inj H
                go_wp2
                go_ret
                exact ⟨by first | rfl | (simp [errW_none, errW_some] <;> rfl) | (simp [*, errW_none, errW_some] <;> rfl), by exact Lz2 HB GE358 GE372⟩
               case rest =>
                clear HC62
                try clear c9
                try clear c9b0
                try clear c27
                try clear c33
                try clear c41
                try clear c47
                try clear c47b0
                try clear c49
                try clear c55
                try clear c61
                try clear c61b0
                try clear c63
                try clear c63b0
                try clear c63b1
                obtain ⟨kq, HA, HJ61, HO_8, HO_11, HO_373001, BK358, BK372, HB⟩ := hcut
                cases kq with
                | zero => exact absurd HA.out (by simp [laws_FnExactDifferenceClass.j7])
                | succ kj61 =>
                 have H := HA.out
                 clear HA
                 simp only [laws_FnExactDifferenceClass.j7] at H
                 replace H := Option.bind_eq_some_iff.mp H
                 obtain ⟨⟨t389, t390⟩, A640, H⟩ := H
                 replace H : ((impl_DifferenceClass.f kj61 t389 t390 a1 a2).bind fun bt393 => ((laws_eqIntS.f kj61 bt393.1 t364).bind fun t397 => (if t397 = true then (laws_FnExactDifferenceClass.j8 kj61 t387 t386 (bt393.2 != t367)) else (laws_FnExactDifferenceClass.j8 kj61 t387 t386 true)))) = some r := H
                 have A64 := Aside0.mk A640
                 clear A640
                 replace H := Option.bind_eq_some_iff.mp H
                 obtain ⟨⟨t393, t396⟩, A650, H⟩ := H
                 replace H : ((laws_eqIntS.f kj61 t393 t364).bind fun t397 => (if t397 = true then (laws_FnExactDifferenceClass.j8 kj61 t387 t386 (t396 != t367)) else (laws_FnExactDifferenceClass.j8 kj61 t387 t386 true))) = some r := H
                 have A65 := Aside0.mk A650
                 clear A650
                 have HC66 := Aside0.mk H
                 clear H
                 have hnb67 := NB358_372.out
                 have hnc67 := NB372_358.out
                 have hcz68_0 : wc.cell? ⟨gb358, 0, none⟩ = some (.int .i64 a0_0) := (blk_cell BK358.out 0).trans rfl
                 have hcz68_1 : wc.cell? ⟨gb358, 1, none⟩ = some (.slice A0_1 l0_1.length c0_1) := (blk_cell BK358.out 1).trans rfl
                 have hfz68_0 := blk_frozen BK358.out 0
                 have hfz68_1 := blk_frozen BK358.out 1
                 go_upto_region 25 with (first | ((with_reducible refine gate_callee (f := 25) rfl ?_); refine goesM_ (some 83) rfl rfl Try.func25 (by kernel_rfl) rfl #[.agg #[.int .i64 a0_0, .slice A0_1 l0_1.length c0_1]] rfl ?_; (with_reducible refine (laws_toGraph.calls kj61 a0_0 _ _ l0_1 t389 t390 _ ?side1 ?side2 A64.out).mono ?_); (case side1 => exact Cz ((Kd.C_below HR0_1.out HB.out))); (case side2 => exact HC0_1.out); rintro e w69 ⟨v391, rfl, ho0, hb⟩; refine ⟨_, rfl, ?_⟩; replace HO_8 := Aside0.mk (Kd.R_below (Rz HO_8) hb); replace HO_11 := Aside0.mk (Kd.R_below (Rz HO_11) hb); have HO392 := Aside0.mk (Kd.R_lower (Kd.R_new' ho0 (Kd.R_lt (Rz HO_373001))) (below_size (by exact Lz2 HB GE358 GE372))); replace HO_373001 := Aside0.mk (Kd.R_elder' (Rz HO_373001) (Kd.R_base ho0) hb); replace BK358 := Aside0.mk (blk_below (g := gb358) (o := .cells #[.int .i64 a0_0, .slice A0_1 l0_1.length c0_1] 37 (0, 0)) (Bz BK358) hb); replace BK372 := Aside0.mk (blk_below (g := gb372) (o := .cells #[.int .i64 t368, .slice Ao24 t384.length co24] 25 (0, 0)) (Bz BK372) hb); replace HB := Aside0.mk (below_step (by exact Lz2 HB GE358 GE372) hb); (try clear hb); (try clear ho0); obtain ⟨Ao70, co70, eo70⟩ := Kd.R_slice HO392.out; subst eo70) | ((with_reducible refine gate_callee (f := 36) rfl ?_); refine goesM_ (some 86) rfl rfl Try.func36 (by kernel_rfl) rfl #[.agg #[.int .i64 t389, .slice Ao70 t390.length co70], .int .i64 a1, .int .i64 a2] rfl ?_; (with_reducible refine (impl_DifferenceClass.calls kj61 t389 _ _ t390 a1 a2 t393 t396 _ ?side1 ?side2 A65.out).mono ?_); (case side1 => exact Cz ((Kd.R_reads' HO392.out).2.2)); (case side2 => exact (Kd.R_reads' HO392.out).2.1); rintro e w71 ⟨v394, rfl, ho0, hb⟩; refine ⟨_, rfl, ?_⟩; replace HO_373001 := Aside0.mk (Kd.R_below (Rz HO_373001) hb); replace HO392 := Aside0.mk (Kd.R_below (Rz HO392) hb); have HO395 := Aside0.mk (Kd.R_lower (Kd.R_new' (Kd.R_new' ho0 (Kd.R_lt (Rz HO_8))) (Kd.R_lt (Rz HO_11))) (below_size (by exact Lz2 HB GE358 GE372))); replace HO_8 := Aside0.mk (Kd.R_elder' (Rz HO_8) (Kd.R_base ho0) hb); replace HO_11 := Aside0.mk (Kd.R_elder' (Rz HO_11) (Kd.R_base ho0) hb); replace BK358 := Aside0.mk (blk_below (g := gb358) (o := .cells #[.int .i64 a0_0, .slice A0_1 l0_1.length c0_1] 37 (0, 0)) (Bz BK358) hb); replace BK372 := Aside0.mk (blk_below (g := gb372) (o := .cells #[.int .i64 t368, .slice Ao24 t384.length co24] 25 (0, 0)) (Bz BK372) hb); replace HB := Aside0.mk (below_step (by exact Lz2 HB GE358 GE372) hb); (try clear hb); (try clear ho0)))
                 (try simp only [Act.put, List.setIfInBounds_toArray, List.set_cons_zero, List.set_cons_succ])
                 go_cut [97] (fun v97 wc => ∃ (kq : Nat) (x97_65 : Bool), v97 = .bool x97_65 ∧ Aside0 (laws_FnExactDifferenceClass.j8 kq t387 t386 x97_65 = some r) ∧ Aside0 (kq ≤ kj61) ∧ Aside0 (Kd.R (Kd.int .i64) 3 wc w.heap.size (fun _ => True) (.slice Ao59 t387.length co59) t387) ∧ Aside0 (Kd.R k70 70 wc w.heap.size (fun _ => True) (.slice Ao24 t384.length co24) t384) ∧ Aside0 (wc.heap[gb358]? = some (.cells #[.int .i64 a0_0, (.slice A0_1 l0_1.length c0_1)] 37 (0, 0))) ∧ Aside0 (wc.heap[gb372]? = some (.cells #[.int .i64 t368, (.slice Ao24 t384.length co24)] 25 (0, 0))) ∧ Aside0 (Below w.heap.size w wc))
                 case first =>
                  have H := HC66.out
                  clear HC66
                  replace H := Option.bind_eq_some_iff.mp H
                  obtain ⟨t397, A720, H⟩ := H
                  replace H : (if t397 = true then (laws_FnExactDifferenceClass.j8 kj61 t387 t386 (t396 != t367)) else (laws_FnExactDifferenceClass.j8 kj61 t387 t386 true)) = some r := H
                  have A72 := Aside0.mk A720
                  clear A720
                  by_cases c73 : t397 = true
                  ·subst c73
                   have H1 : (laws_FnExactDifferenceClass.j8 kj61 t387 t386 (t396 != t367)) = some r := by rw [if_pos rfl] at H; exact H
                   clear H
                   have H := H1
                   clear H1
                   have H' := Aside0.mk H
                   clear H
                   obtain ⟨Ao74, co74, eo74⟩ := Kd.R_slice HO395.out
                   subst eo74
                   obtain ⟨Ao75, co75, eo75⟩ := Kd.R_slice HO_8.out
                   subst eo75
                   go_wp2_with (first | ((with_reducible refine gate_callee (f := 28) rfl ?_); refine goesM_ (some 91) rfl rfl Try.func28 (by kernel_rfl) rfl #[.slice Ao74 t393.length co74, .slice Ao75 t364.length co75] rfl ?_; (with_reducible refine (laws_eqIntS.calls kj61 _ _ t393 _ _ t364 true _ ?side1 ?side2 ?side3 ?side4 A72.out).mono ?_); (case side1 => exact Cz ((Kd.R_reads' HO395.out).2.2)); (case side2 => exact (Kd.R_reads' HO395.out).2.1); (case side3 => exact Cz ((Kd.R_reads' HO_8.out).2.2)); (case side4 => exact (Kd.R_reads' HO_8.out).2.1); rintro e w' ⟨rfl, ⟨nd, rfl⟩⟩; refine ⟨_, rfl, ?_⟩))
                   go_meet
                   case rel => exact ⟨_, ((t396 != t367)), (by first | rfl | (simp; done) | (simp [*]; done)), H', ⟨by have := HJ4.out; have := HJ13.out; have := HJ31.out; have := HJ35.out; have := HJ42.out; have := HJ53.out; have := HJ57.out; have := HJ61.out; first | omega | exact Nat.le_refl _⟩, ⟨by (try simp only [hl373001_42]); (try simp only [hl11_57]); (with_reducible repeat (first | apply Kd.R_alloc | apply Kd.R_drewN | apply Kd.R_drew)); exact Kd.R_mono HO_11.out (fun _ hk => trivial)⟩, ⟨by (try simp only [hl373001_42]); (try simp only [hl11_57]); (with_reducible repeat (first | apply Kd.R_alloc | apply Kd.R_drewN | apply Kd.R_drew)); exact Kd.R_mono HO_373001.out (fun _ hk => trivial)⟩, ⟨by (try simp only [hl373001_42]); (try simp only [hl11_57]); exact Bz BK358⟩, ⟨by (try simp only [hl373001_42]); (try simp only [hl11_57]); exact Bz BK372⟩, ⟨by exact Lz2 HB GE358 GE372⟩⟩
                  replace c73 := Bool.eq_false_iff.mpr c73
                  subst c73
                  have H1 : (laws_FnExactDifferenceClass.j8 kj61 t387 t386 true) = some r := by rw [if_neg (show ¬ (false = true) by decide)] at H; exact H
                  clear H
                  have H := H1
                  clear H1
                  have H' := Aside0.mk H
                  clear H
                  obtain ⟨Ao76, co76, eo76⟩ := Kd.R_slice HO395.out
                  subst eo76
                  obtain ⟨Ao77, co77, eo77⟩ := Kd.R_slice HO_8.out
                  subst eo77
                  go_wp2_with (first | ((with_reducible refine gate_callee (f := 28) rfl ?_); refine goesM_ (some 91) rfl rfl Try.func28 (by kernel_rfl) rfl #[.slice Ao76 t393.length co76, .slice Ao77 t364.length co77] rfl ?_; (with_reducible refine (laws_eqIntS.calls kj61 _ _ t393 _ _ t364 false _ ?side1 ?side2 ?side3 ?side4 A72.out).mono ?_); (case side1 => exact Cz ((Kd.R_reads' HO395.out).2.2)); (case side2 => exact (Kd.R_reads' HO395.out).2.1); (case side3 => exact Cz ((Kd.R_reads' HO_8.out).2.2)); (case side4 => exact (Kd.R_reads' HO_8.out).2.1); rintro e w' ⟨rfl, ⟨nd, rfl⟩⟩; refine ⟨_, rfl, ?_⟩))
                  go_meet
                  case rel => exact ⟨_, (true), (by first | rfl | (simp; done) | (simp [*]; done)), H', ⟨by have := HJ4.out; have := HJ13.out; have := HJ31.out; have := HJ35.out; have := HJ42.out; have := HJ53.out; have := HJ57.out; have := HJ61.out; first | omega | exact Nat.le_refl _⟩, ⟨by (try simp only [hl373001_42]); (try simp only [hl11_57]); (with_reducible repeat (first | apply Kd.R_alloc | apply Kd.R_drewN | apply Kd.R_drew)); exact Kd.R_mono HO_11.out (fun _ hk => trivial)⟩, ⟨by (try simp only [hl373001_42]); (try simp only [hl11_57]); (with_reducible repeat (first | apply Kd.R_alloc | apply Kd.R_drewN | apply Kd.R_drew)); exact Kd.R_mono HO_373001.out (fun _ hk => trivial)⟩, ⟨by (try simp only [hl373001_42]); (try simp only [hl11_57]); exact Bz BK358⟩, ⟨by (try simp only [hl373001_42]); (try simp only [hl11_57]); exact Bz BK372⟩, ⟨by exact Lz2 HB GE358 GE372⟩⟩
                 case rest =>
                  clear HC66
                  try clear c9
                  try clear c9b0
                  try clear c27
                  try clear c33
                  try clear c41
                  try clear c47
                  try clear c47b0
                  try clear c49
                  try clear c55
                  try clear c61
                  try clear c61b0
                  try clear c63
                  try clear c63b0
                  try clear c63b1
                  try clear c73
                  obtain ⟨kq, x97_65, rfl, HA, HJ65, HO_11, HO_373001, BK358, BK372, HB⟩ := hcut
                  cases kq with
                  | zero => exact absurd HA.out (by simp [laws_FnExactDifferenceClass.j8])
                  | succ kj65 =>
                   have H := HA.out
                   clear HA
                   simp only [laws_FnExactDifferenceClass.j8] at H
                   have HC78 := Aside0.mk H
                   clear H
                   go_upto_if 97 with (fail)
                   go_cut [] (fun wc => ∃ (kq : Nat), Aside0 (laws_FnExactDifferenceClass.j9 kq t387 t386 = some r) ∧ Aside0 (kq ≤ kj65) ∧ Aside0 (Kd.R (Kd.int .i64) 3 wc w.heap.size (fun _ => True) (.slice Ao59 t387.length co59) t387) ∧ Aside0 (Kd.R k70 70 wc w.heap.size (fun _ => True) (.slice Ao24 t384.length co24) t384) ∧ Aside0 (wc.heap[gb358]? = some (.cells #[.int .i64 a0_0, (.slice A0_1 l0_1.length c0_1)] 37 (0, 0))) ∧ Aside0 (wc.heap[gb372]? = some (.cells #[.int .i64 t368, (.slice Ao24 t384.length co24)] 25 (0, 0))) ∧ Aside0 (Below w.heap.size w wc))
                   case first =>
                    have H := HC78.out
                    clear HC78
                    by_cases c79 : x97_65 = true
                    ·subst c79
                     have H1 : (some false) = some r := by rw [if_pos rfl] at H; exact H
                     clear H
                     have H := H1
                     clear H1
                     obtain rfl := Option.some.inj H
                     go_wp2
                     go_ret
                     exact ⟨by first | rfl | (simp [errW_none, errW_some] <;> rfl) | (simp [*, errW_none, errW_some] <;> rfl), by exact Lz2 HB GE358 GE372⟩
                    replace c79 := Bool.eq_false_iff.mpr c79
                    subst c79
                    have H1 : (laws_FnExactDifferenceClass.j9 kj65 t387 t386) = some r := by rw [if_neg (show ¬ (false = true) by decide)] at H; exact H
                    clear H
                    have H := H1
                    clear H1
                    have H' := Aside0.mk H
                    clear H
                    go_wp2
                    go_meet
                    case rel => exact ⟨_, H', ⟨by have := HJ4.out; have := HJ13.out; have := HJ31.out; have := HJ35.out; have := HJ42.out; have := HJ53.out; have := HJ57.out; have := HJ61.out; have := HJ65.out; first | omega | exact Nat.le_refl _⟩, ⟨by (try simp only [hl373001_42]); (try simp only [hl11_57]); exact Rz HO_11⟩, ⟨by (try simp only [hl373001_42]); (try simp only [hl11_57]); exact Rz HO_373001⟩, ⟨by (try simp only [hl373001_42]); (try simp only [hl11_57]); exact Bz BK358⟩, ⟨by (try simp only [hl373001_42]); (try simp only [hl11_57]); exact Bz BK372⟩, ⟨by exact Lz2 HB GE358 GE372⟩⟩
                   case rest =>
                    clear HC78
                    try clear c9
                    try clear c9b0
                    try clear c27
                    try clear c33
                    try clear c41
                    try clear c47
                    try clear c47b0
                    try clear c49
                    try clear c55
                    try clear c61
                    try clear c61b0
                    try clear c63
                    try clear c63b0
                    try clear c63b1
                    try clear c73
                    try clear c79
                    obtain ⟨kq, HA, HJ77, HO_11, HO_373001, BK358, BK372, HB⟩ := hcut
                    cases kq with
                    | zero => exact absurd HA.out (by simp [laws_FnExactDifferenceClass.j9])
                    | succ kj77 =>
                     have H := HA.out
                     clear HA
                     simp only [laws_FnExactDifferenceClass.j9] at H
                     replace H := Option.bind_eq_some_iff.mp H
                     obtain ⟨t398, A800, H⟩ := H
                     replace H : (if t398 < 0 then (some false) else (laws_FnExactDifferenceClass.j10 kj77 t386 t398)) = some r := H
                     have A80 := Aside0.mk A800
                     clear A800
                     have HC81 := Aside0.mk H
                     clear H
                     go_upto_if 102 with (first | ((with_reducible refine gate_callee (f := 32) rfl ?_); refine goesM_ (some 100) rfl rfl Try.func32 (by kernel_rfl) rfl #[.slice Ao59 t387.length co59, .int .i64 1] rfl ?_; (with_reducible refine (laws_heldIntS.calls kj77 _ _ t387 1 t398 _ ?side1 ?side2 A80.out).mono ?_); (case side1 => exact Cz ((Kd.R_reads' HO_11.out).2.2)); (case side2 => exact (Kd.R_reads' HO_11.out).2.1); rintro e w' ⟨rfl, ⟨nd, rfl⟩⟩; refine ⟨_, rfl, ?_⟩))
                     (try simp only [Act.put, List.setIfInBounds_toArray, List.set_cons_zero, List.set_cons_succ])
                     go_cut [] (fun wc => ∃ (kq : Nat), Aside0 (laws_FnExactDifferenceClass.j10 kq t386 t398 = some r) ∧ Aside0 (kq ≤ kj77) ∧ Aside0 (Kd.R k70 70 wc w.heap.size (fun _ => True) (.slice Ao24 t384.length co24) t384) ∧ Aside0 (wc.heap[gb358]? = some (.cells #[.int .i64 a0_0, (.slice A0_1 l0_1.length c0_1)] 37 (0, 0))) ∧ Aside0 (wc.heap[gb372]? = some (.cells #[.int .i64 t368, (.slice Ao24 t384.length co24)] 25 (0, 0))) ∧ Aside0 (Below w.heap.size w wc))
                     case first =>
                      have H := HC81.out
                      clear HC81
                      by_cases c82 : t398 < 0
                      ·rw [if_pos c82] at H
                       have c82b0 : decide (t398 < 0) = true := decide_eq_true c82
                       clear c82
                       (first | rw [c82b0] | (simp only [i64_w, i32_w]; rw [c82b0]) | skip)
                       obtain rfl := Option.some.inj H
                       go_wp2
                       go_ret
                       exact ⟨by first | rfl | (simp [errW_none, errW_some] <;> rfl) | (simp [*, errW_none, errW_some] <;> rfl), by exact Lz2 HB GE358 GE372⟩
                      rw [if_neg c82] at H
                      have c82b0 : decide (t398 < 0) = false := decide_eq_false c82
                      clear c82
                      (first | rw [c82b0] | (simp only [i64_w, i32_w]; rw [c82b0]) | skip)
                      have H' := Aside0.mk H
                      clear H
                      go_wp2
                      go_meet
                      case rel => exact ⟨_, H', ⟨by have := HJ4.out; have := HJ13.out; have := HJ31.out; have := HJ35.out; have := HJ42.out; have := HJ53.out; have := HJ57.out; have := HJ61.out; have := HJ65.out; have := HJ77.out; first | omega | exact Nat.le_refl _⟩, ⟨by (try simp only [hl373001_42]); (try simp only [hl11_57]); exact Rz HO_373001⟩, ⟨by (try simp only [hl373001_42]); (try simp only [hl11_57]); exact Bz BK358⟩, ⟨by (try simp only [hl373001_42]); (try simp only [hl11_57]); exact Bz BK372⟩, ⟨by exact Lz2 HB GE358 GE372⟩⟩
                     case rest =>
                      clear HC81
                      try clear c9
                      try clear c9b0
                      try clear c27
                      try clear c33
                      try clear c41
                      try clear c47
                      try clear c47b0
                      try clear c49
                      try clear c55
                      try clear c61
                      try clear c61b0
                      try clear c63
                      try clear c63b0
                      try clear c63b1
                      try clear c73
                      try clear c79
                      try clear c82
                      try clear c82b0
                      obtain ⟨kq, HA, HJ80, HO_373001, BK358, BK372, HB⟩ := hcut
                      cases kq with
                      | zero => exact absurd HA.out (by simp [laws_FnExactDifferenceClass.j10])
                      | succ kj80 =>
                       have H := HA.out
                       clear HA
                       simp only [laws_FnExactDifferenceClass.j10] at H
                       by_cases c83 : t398 = t386
                       ·rw [if_pos c83] at H
                        have c83b0 : (t398 == t386) = true := beq_iff_eq.mpr c83
                        have c83b1 : (t398 != t386) = false := bne_eq_false_iff_eq.mpr c83
                        clear c83
                        obtain rfl := Option.some.inj H
                        go_wp2
                        go_ret
                        exact ⟨by first | rfl | (simp [errW_none, errW_some] <;> rfl) | (simp [*, errW_none, errW_some] <;> rfl), by exact Lz2 HB GE358 GE372⟩
                       rw [if_neg c83] at H
                       have c83b0 : (t398 == t386) = false := beq_eq_false_iff_ne.mpr c83
                       have c83b1 : (t398 != t386) = true := bne_iff_ne.mpr c83
                       obtain rfl := Option.some.inj H
                       go_wp2
                       go_ret
                       exact ⟨by first | rfl | (simp [errW_none, errW_some] <;> rfl) | (simp [*, errW_none, errW_some] <;> rfl), by exact Lz2 HB GE358 GE372⟩
end Go.Proofs.Ytnebapnfkolflaa.P
end
section
namespace Go.Proofs.Ytnebapnfkolflaa.Pure
open Go.RowKit Go.Proofs.Ytnebapnfkolflaa.P Go.Proofs.YtnebapnfkolflaaW.PrintWords Go.Proofs.YtnebapnfkolflaaW.PrintLast Go.Proofs.YtnebapnfkolflaaW.PrintMore
def StatFnExactDifferenceClass : Prop := ∀ (a0_0 : Int) (l0_1 : List (S95)) (a1 : Int) (a2 : Int), ((Lit.int .i64 a0_0).wf = true ∧ (l0_1.length ≤ maxLen ∧ ∀ x4 ∈ l0_1, (Lit.int .i64 x4.f0).wf = true ∧ (Lit.int .i64 x4.f1).wf = true)) → (Lit.int .i64 a1).wf = true → (Lit.int .i64 a2).wf = true → ∃ k, laws_FnExactDifferenceClass.f k a0_0 l0_1 a1 a2 = some true
end Go.Proofs.Ytnebapnfkolflaa.Pure
end
section
set_option linter.unusedVariables false
set_option linter.unusedSimpArgs false
namespace Go.Proofs.Ytnebapnfkolflaa.Pure
open Go.RowKit Go.Proofs.Ytnebapnfkolflaa.P Go.Proofs.YtnebapnfkolflaaW.PrintWords Go.Proofs.YtnebapnfkolflaaW.PrintLast Go.Proofs.YtnebapnfkolflaaW.PrintMore Go.Proofs.Ytnebapnfkolflaa.Base Go.Proofs.Ytnebapnfkolflaa.Loops
def plusL (a b : List Int) : List Int := (List.range a.length).map fun i : Nat => wrap64 (a.getD i 0 + b.getD i 0)
theorem impl_plus_ev (a b : List Int) (ha : a.length < 17592186044416) (hab : a.length = b.length) : Ev (fun k => impl_plus.f k a b) (plusL a b) := by
  simp only [impl_plus.f, copyI_eq a ha, Option.bind_some]
  refine inplace_ev a (plusL a b) (by simp [plusL]) (fun k x i => impl_plus.l0 k b x (a.length : Int) i) (fun x hx => ev1 fun k => ?_) (fun x i hi hx hg r hr => ev_succ ?_)
  · simp only [impl_plus.l0]
    rw [if_neg (by omega)]
  · have e1 : wrap64 (rd x i + rd b i) = (plusL a b).getD i 0 := by
      unfold plusL
      rw [getD_range _ _ _ hi, ← hg]; rfl
    simp only [impl_plus.l0, wrap_succ (show i < 4611686018427387904 by omega), e1, Int.toNat_natCast]
    exact ev_ift (by omega) (ev_ift (by omega) (ev_ift (by omega) (ev_ift (by omega) hr)))
end Go.Proofs.Ytnebapnfkolflaa.Pure
end
section
set_option linter.unusedVariables false
set_option linter.unusedSimpArgs false
namespace Go.Proofs.Ytnebapnfkolflaa.Pure
open Go.RowKit Go.Proofs.Ytnebapnfkolflaa.P Go.Proofs.YtnebapnfkolflaaW.PrintWords Go.Proofs.YtnebapnfkolflaaW.PrintLast Go.Proofs.YtnebapnfkolflaaW.PrintMore Go.Proofs.Ytnebapnfkolflaa.Base Go.Proofs.Ytnebapnfkolflaa.Reduce Go.Proofs.Ytnebapnfkolflaa.Loops Go.Proofs.Ytnebapnfkolflaa.Bits
def dC (m : Nat) (v w : Nat) : List Int := ((List.replicate m (0 : Int)).set v 1).set w (((List.replicate m (0 : Int)).set v 1).getD w 0 - 1)
theorem rep_getD (m j : Nat) : (List.replicate m (0 : Int)).getD j 0 = 0 := by
  rw [List.getD_eq_getElem?_getD, List.getElem?_replicate]
  split <;> rfl
theorem dC_get {m v w : Nat} (hv : v < m) (hw : w < m) (j : Nat) : (dC m v w).getD j 0 = (if v = j then 1 else 0) - (if w = j then 1 else 0) := by
  unfold dC
  rw [getD_set0 _ _ _ _ (by simp; omega), getD_set0 _ _ _ _ (by simp; omega), getD_set0 _ _ _ _ (by simp; omega), rep_getD, rep_getD]
  by_cases c : w = j
  · subst c; simp
  · simp [c]
theorem diffClass_both (n : Int) (es : List S70) (v w : Int) (hL : es.length < 4611686018427387904) :
    ∃ (r : List Int) (q : Bool), Ev (fun k => impl_DifferenceClass.f k n es v w) (r, q) ∧ Ev (fun k => spec_DifferenceClass.f k n es v w) (r, q) ∧ r.length ≤ 6 ∧ True := by
  obtain ⟨b, h1, h2, hb⟩ := graphOk_both n es hL
  simp only [impl_DifferenceClass.f, impl_isVertex.f, spec_DifferenceClass.f, within_eq, in_eq, Option.bind_some]
  have offS : ∀ c : Bool, c = true → Ev (fun k => spec_DifferenceClass.j0 k v w c n es) (([] : List Int), false) := fun c hc => ev_succ (by
    simp only [spec_DifferenceClass.j0]
    exact ev_ift hc (Ev.now _))
  have offI : ∀ c : Bool, c = true → Ev (fun k => impl_DifferenceClass.j0 k v w c n es) (([] : List Int), false) := fun c hc => ev_succ (by
    simp only [impl_DifferenceClass.j0]
    exact ev_ift hc (Ev.now _))
  cases b with
  | false => exact ⟨[], false, Ev.bind (Ev.bind h1 (ev_iff (Ev.now _))) (ev_iff (offI _ rfl)), Ev.bind h2 (ev_iff (offS _ rfl)), by simp, trivial⟩
  | true =>
    simp only [true_iff] at hb
    obtain ⟨f1, f2, f3, f4⟩ := edgesB_facts hb.1
    have ew : wrap64 (n - 1) = n - 1 := by unfold wrap64; omega
    rw [ew]
    have vt : ∀ u : Int, Ev (fun k => (impl_GraphOk.f k n es).bind fun t => if t = true then some (decide (0 ≤ u ∧ u ≤ n - 1)) else some false) (decide (0 ≤ u ∧ u ≤ n - 1)) := fun u => Ev.bind h1 (ev_ift rfl (Ev.now _))
    by_cases hv : 0 ≤ v ∧ v ≤ n - 1
    · have tv := vt v
      rw [decide_eq_true hv] at tv ⊢
      by_cases hw : 0 ≤ w ∧ w ≤ n - 1
      · have tw := vt w
        rw [decide_eq_true hw] at tw ⊢
        obtain ⟨m, rfl⟩ : ∃ m : Nat, n = m := ⟨n.toNat, by omega⟩
        obtain ⟨x, rfl⟩ : ∃ x : Nat, v = x := ⟨v.toNat, by omega⟩
        obtain ⟨y, rfl⟩ : ∃ y : Nat, w = y := ⟨w.toNat, by omega⟩
        have hx : x < m := by omega
        have hy : y < m := by omega
        have S : Start m es (dC m x y) 0 := ⟨hb, by omega, by simp [dC], fun u => by
          rw [dC_get hx hy]; split <;> split <;> omega⟩
        obtain ⟨s, s1, s2, s3, s4, s5, s6, s7, s8⟩ := reduce_both S
        have ho : ∀ (u : Nat) (c : Int), u < m → impl_oneAt.f m es u c = some ((List.replicate m 0).set u c) := fun u c hu => by
          unfold impl_oneAt.f
          rw [if_pos (by omega), if_pos (by omega)]
          simp only [Option.bind_some, List.length_replicate, Int.toNat_natCast]
          rw [if_pos (by omega), if_pos (by omega)]
        have hp : plusL ((List.replicate m 0).set x 1) ((List.replicate m 0).set y (-1)) = dC m x y := by
          refine list_eq0 (by simp [plusL, dC]) fun j hj => ?_
          have hj' : j < ((List.replicate m (0 : Int)).set x 1).length := by simpa [plusL] using hj
          unfold plusL
          rw [getD_range _ _ _ hj', dC_get hx hy, getD_set0 _ _ _ _ (by simp; omega), getD_set0 _ _ _ _ (by simp; omega), rep_getD]
          split <;> split <;> (unfold wrap64; omega)
        have pl := impl_plus_ev ((List.replicate m 0).set x 1) ((List.replicate m 0).set y (-1)) (by simp; omega) (by simp)
        rw [hp] at pl
        have e0 : rd (List.replicate m (0 : Int)) (x : Int) = 0 := by unfold rd; rw [Int.toNat_natCast]; exact rep_getD _ _
        have e2 : wrap64 (rd ((List.replicate m (0 : Int)).set x 1) (y : Int) - 1) = ((List.replicate m (0 : Int)).set x 1).getD y 0 - 1 := by
          unfold rd
          rw [Int.toNat_natCast, getD_set0 _ _ _ _ (by simp; omega), rep_getD]
          split <;> (unfold wrap64; omega)
        refine ⟨XD es (dC m x y) s, true, Ev.bind tv (ev_ift rfl (Ev.bind tw (ev_succ ?_))), Ev.bind h2 (ev_ift rfl (ev_ift rfl (ev_succ ?_))), by omega, trivial⟩
        · simp only [impl_DifferenceClass.j0, ho x 1 hx, ho y (-1) hy, Option.bind_some]
          exact ev_ifnn (Ev.bind pl (Ev.bind s7 (Ev.now _)))
        · simp only [spec_DifferenceClass.j0, Option.bind_some, Int.toNat_natCast, List.length_replicate, e0, show wrap64 (0 + 1) = 1 by unfold wrap64; omega, e2]
          exact ev_ifnn (ev_ift (by omega) (ev_ift (by omega) (ev_ift (by omega) (ev_ift (by omega) (ev_ift (by omega) (ev_ift (by omega) (Ev.bind s8 (Ev.now _))))))))
      · have tw := vt w
        rw [decide_eq_false hw] at tw ⊢
        exact ⟨[], false, Ev.bind tv (ev_ift rfl (Ev.bind tw (offI _ rfl))), Ev.bind h2 (ev_ift rfl (ev_ift rfl (offS _ rfl))), by simp, trivial⟩
    · have tv := vt v
      rw [decide_eq_false hv] at tv ⊢
      exact ⟨[], false, Ev.bind tv (ev_iff (offI _ rfl)), Ev.bind h2 (ev_ift rfl (ev_iff (offS _ rfl))), by simp, trivial⟩
end Go.Proofs.Ytnebapnfkolflaa.Pure
end
section
set_option linter.unusedVariables false
set_option linter.unusedSimpArgs false
namespace Go.Proofs.Ytnebapnfkolflaa.Pure
open Go.RowKit Go.Proofs.Ytnebapnfkolflaa.P Go.Proofs.YtnebapnfkolflaaW.PrintWords Go.Proofs.YtnebapnfkolflaaW.PrintLast Go.Proofs.YtnebapnfkolflaaW.PrintMore Go.Proofs.Ytnebapnfkolflaa.Base Go.Proofs.Ytnebapnfkolflaa.Reduce Go.Proofs.Ytnebapnfkolflaa.Loops Go.Proofs.Ytnebapnfkolflaa.Bits
theorem FnExactDifferenceClass : StatFnExactDifferenceClass := by
  intro n l i1 i2 ⟨_, hl, _⟩ _ _
  refine Ev.rounds (r := true) ?_
  unfold laws_FnExactDifferenceClass.f
  have hs := szGraph_eq n l hl 1048576 (by omega) (by omega)
  by_cases h : (l.length : Int) ≤ 1048576
  · have es : Ev (fun _ : Nat => laws_szGraph.f n l 1048576) (1048576 - (l.length : Int)) := ev_const fun _ => by rw [hs, if_pos h]
    have tg := toGraph_ev n l (by omega)
    have hm := map_cv_length l
    have hL : (l.map cvE).length < 4611686018427387904 := by omega
    obtain ⟨r, q, g1, g2, hr, _⟩ := diffClass_both n (l.map cvE) i1 i2 hL
    have eg := eqGraph_ev n (l.map cvE) hL
    have er := eqIntS_ev r (by omega)
    obtain ⟨y, my⟩ := markGraph_ev n (l.map cvE) (by omega)
    have mr := markIntS_ev 1 (by omega) r (by omega)
    have he := heldIntS_ev r.length (by omega)
    repeat (first
      | exact Ev.now _
      | dsimp only
      | (with_reducible refine Ev.bind es ?_) | (with_reducible refine Ev.bind tg ?_) | (with_reducible refine Ev.bind g1 ?_) | (with_reducible refine Ev.bind g2 ?_) | (with_reducible refine Ev.bind eg ?_) | (with_reducible refine Ev.bind er ?_) | (with_reducible refine Ev.bind my ?_) | (with_reducible refine Ev.bind mr ?_) | (with_reducible refine Ev.bind he ?_)
      | with_reducible refine ev_ift (by first | rfl | omega) ?_
      | with_reducible refine ev_ifn (by omega) ?_
      | with_reducible refine ev_ifb ?_
      | with_reducible refine ev_ifnn ?_
      | with_reducible refine ev_iff ?_
      | (refine ev_succ ?_; simp only [if_true, laws_FnExactDifferenceClass.j0, laws_FnExactDifferenceClass.j1, laws_FnExactDifferenceClass.j2, laws_FnExactDifferenceClass.j3, laws_FnExactDifferenceClass.j4, laws_FnExactDifferenceClass.j5, laws_FnExactDifferenceClass.j6, laws_FnExactDifferenceClass.j7, laws_FnExactDifferenceClass.j8, laws_FnExactDifferenceClass.j9, laws_FnExactDifferenceClass.j10])
      )
  · have es : Ev (fun _ : Nat => laws_szGraph.f n l 1048576) (-1) := ev_const fun _ => by rw [hs, if_neg h]
    repeat (first
      | exact Ev.now _
      | dsimp only
      | (with_reducible refine Ev.bind es ?_)
      | with_reducible refine ev_ift (by first | rfl | omega) ?_
      | with_reducible refine ev_ifn (by omega) ?_
      | with_reducible refine ev_ifb ?_
      | with_reducible refine ev_ifnn ?_
      | with_reducible refine ev_iff ?_
      | (refine ev_succ ?_; simp only [if_true, laws_FnExactDifferenceClass.j0, laws_FnExactDifferenceClass.j1, laws_FnExactDifferenceClass.j2, laws_FnExactDifferenceClass.j3, laws_FnExactDifferenceClass.j4, laws_FnExactDifferenceClass.j5, laws_FnExactDifferenceClass.j6, laws_FnExactDifferenceClass.j7, laws_FnExactDifferenceClass.j8, laws_FnExactDifferenceClass.j9, laws_FnExactDifferenceClass.j10])
      )
end Go.Proofs.Ytnebapnfkolflaa.Pure
end
