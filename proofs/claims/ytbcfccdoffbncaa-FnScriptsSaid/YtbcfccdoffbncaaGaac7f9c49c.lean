/- Functions of the program as plain Lean functions and that the machine's calls answer as they do, the words of the print that these use, lemmas and plain proofs of laws. Put together by a program of this work that leaves out what nothing uses; Lean checks it. -/
import Derived.Test.YtbcfccdoffbncaaGa2b5af435a
section
namespace Go.Proofs.Ytbcfccdoffbncaa.P
open Go.RowKit Go.Proofs.YtbcfccdoffbncaaW.PrintWords Go.Proofs.YtbcfccdoffbncaaW.PrintLast Go.Proofs.YtbcfccdoffbncaaW.PrintMore
attribute [local go_sem] max2_int min2_int max_two min_two max_three min_three max_four min_four
set_option linter.unusedVariables false
set_option linter.unusedSimpArgs false
def cmp_Compare_int.f (a0 : Int) (a1 : Int) : Option (Int) := (cmp_isNaN_int.f a0).bind fun t267 => ((cmp_isNaN_int.f a1).bind fun t268 => (if t267 = true then (if t268 = true then (some 0) else (some (-1))) else (if t268 = true then (some 1) else (if a0 < a1 then (some (-1)) else (if a0 > a1 then (some 1) else (some 0))))))
set_option maxHeartbeats 8000000 in
set_option maxRecDepth 100000 in
theorem cmp_Compare_int.calls (a0 : Int) (a1 : Int) (r : Int) (w : World) (h : cmp_Compare_int.f a0 a1 = some r) :
  Calls Try.prog 113 #[.int .i64 a0, .int .i64 a1] w fun e w' => e = .returned (.int .i64 r) ∧ Drawn0 w w' := by
 have H : ((cmp_isNaN_int.f a0).bind fun t267 => ((cmp_isNaN_int.f a1).bind fun t268 => (if t267 = true then (if t268 = true then (some 0) else (some (-1))) else (if t268 = true then (some 1) else (if a0 < a1 then (some (-1)) else (if a0 > a1 then (some 1) else (some 0))))))) = some r := h
 clear h
 replace H := Option.bind_eq_some_iff.mp H
 obtain ⟨t267, A30, H⟩ := H
 replace H : ((cmp_isNaN_int.f a1).bind fun t268 => (if t267 = true then (if t268 = true then (some 0) else (some (-1))) else (if t268 = true then (some 1) else (if a0 < a1 then (some (-1)) else (if a0 > a1 then (some 1) else (some 0)))))) = some r := H
 have A3 := Aside0.mk A30
 clear A30
 replace H := Option.bind_eq_some_iff.mp H
 obtain ⟨t268, A40, H⟩ := H
 replace H : (if t267 = true then (if t268 = true then (some 0) else (some (-1))) else (if t268 = true then (some 1) else (if a0 < a1 then (some (-1)) else (if a0 > a1 then (some 1) else (some 0))))) = some r := H
 have A4 := Aside0.mk A40
 clear A40
 by_cases c5 : t267 = true
 ·subst c5
  have H1 : (if t268 = true then (some 0) else (some (-1))) = some r := by rw [if_pos rfl] at H; exact H
  clear H
  have H := H1
  clear H1
  by_cases c6 : t268 = true
  ·subst c6
   have H1 : (some 0) = some r := by rw [if_pos rfl] at H; exact H
   clear H
   have H := H1
   clear H1
   obtain rfl := Option.some.inj H
   go_enter Try.func113, Try.ntmps113
   go_wp2_with (first | ((with_reducible refine gate_callee (f := 129) rfl ?_); refine goesM_ (some 8) rfl rfl Try.func129 (by kernel_rfl) rfl #[.int .i64 a0] rfl ?_; (with_reducible refine (cmp_isNaN_int.calls a0 true _ A3.out).mono ?_); rintro e w' ⟨rfl, ⟨nd, rfl⟩⟩; refine ⟨_, rfl, ?_⟩) | ((with_reducible refine gate_callee (f := 129) rfl ?_); refine goesM_ (some 10) rfl rfl Try.func129 (by kernel_rfl) rfl #[.int .i64 a1] rfl ?_; (with_reducible refine (cmp_isNaN_int.calls a1 true _ A4.out).mono ?_); rintro e w' ⟨rfl, ⟨nd, rfl⟩⟩; refine ⟨_, rfl, ?_⟩))
   go_ret
   exact ⟨eqA, by repeat (first | exact Drawn0.refl _ | apply Drawn0.step)⟩
  replace c6 := Bool.eq_false_iff.mpr c6
  subst c6
  have H1 : (some (-1)) = some r := by rw [if_neg (show ¬ (false = true) by decide)] at H; exact H
  clear H
  have H := H1
  clear H1
  obtain rfl := Option.some.inj H
  go_enter Try.func113, Try.ntmps113
  go_wp2_with (first | ((with_reducible refine gate_callee (f := 129) rfl ?_); refine goesM_ (some 8) rfl rfl Try.func129 (by kernel_rfl) rfl #[.int .i64 a0] rfl ?_; (with_reducible refine (cmp_isNaN_int.calls a0 true _ A3.out).mono ?_); rintro e w' ⟨rfl, ⟨nd, rfl⟩⟩; refine ⟨_, rfl, ?_⟩) | ((with_reducible refine gate_callee (f := 129) rfl ?_); refine goesM_ (some 10) rfl rfl Try.func129 (by kernel_rfl) rfl #[.int .i64 a1] rfl ?_; (with_reducible refine (cmp_isNaN_int.calls a1 false _ A4.out).mono ?_); rintro e w' ⟨rfl, ⟨nd, rfl⟩⟩; refine ⟨_, rfl, ?_⟩))
  go_ret
  exact ⟨eqA, by repeat (first | exact Drawn0.refl _ | apply Drawn0.step)⟩
 replace c5 := Bool.eq_false_iff.mpr c5
 subst c5
 have H1 : (if t268 = true then (some 1) else (if a0 < a1 then (some (-1)) else (if a0 > a1 then (some 1) else (some 0)))) = some r := by rw [if_neg (show ¬ (false = true) by decide)] at H; exact H
 clear H
 have H := H1
 clear H1
 by_cases c7 : t268 = true
 ·subst c7
  have H1 : (some 1) = some r := by rw [if_pos rfl] at H; exact H
  clear H
  have H := H1
  clear H1
  obtain rfl := Option.some.inj H
  go_enter Try.func113, Try.ntmps113
  go_wp2_with (first | ((with_reducible refine gate_callee (f := 129) rfl ?_); refine goesM_ (some 8) rfl rfl Try.func129 (by kernel_rfl) rfl #[.int .i64 a0] rfl ?_; (with_reducible refine (cmp_isNaN_int.calls a0 false _ A3.out).mono ?_); rintro e w' ⟨rfl, ⟨nd, rfl⟩⟩; refine ⟨_, rfl, ?_⟩) | ((with_reducible refine gate_callee (f := 129) rfl ?_); refine goesM_ (some 10) rfl rfl Try.func129 (by kernel_rfl) rfl #[.int .i64 a1] rfl ?_; (with_reducible refine (cmp_isNaN_int.calls a1 true _ A4.out).mono ?_); rintro e w' ⟨rfl, ⟨nd, rfl⟩⟩; refine ⟨_, rfl, ?_⟩))
  go_ret
  exact ⟨eqA, by repeat (first | exact Drawn0.refl _ | apply Drawn0.step)⟩
 replace c7 := Bool.eq_false_iff.mpr c7
 subst c7
 have H1 : (if a0 < a1 then (some (-1)) else (if a0 > a1 then (some 1) else (some 0))) = some r := by rw [if_neg (show ¬ (false = true) by decide)] at H; exact H
 clear H
 have H := H1
 clear H1
 by_cases c8 : a0 < a1
 ·rw [if_pos c8] at H
  have c8b0 : decide (a0 < a1) = true := decide_eq_true c8
  clear c8
  obtain rfl := Option.some.inj H
  go_enter Try.func113, Try.ntmps113
  go_wp2_with (first | ((with_reducible refine gate_callee (f := 129) rfl ?_); refine goesM_ (some 8) rfl rfl Try.func129 (by kernel_rfl) rfl #[.int .i64 a0] rfl ?_; (with_reducible refine (cmp_isNaN_int.calls a0 false _ A3.out).mono ?_); rintro e w' ⟨rfl, ⟨nd, rfl⟩⟩; refine ⟨_, rfl, ?_⟩) | ((with_reducible refine gate_callee (f := 129) rfl ?_); refine goesM_ (some 10) rfl rfl Try.func129 (by kernel_rfl) rfl #[.int .i64 a1] rfl ?_; (with_reducible refine (cmp_isNaN_int.calls a1 false _ A4.out).mono ?_); rintro e w' ⟨rfl, ⟨nd, rfl⟩⟩; refine ⟨_, rfl, ?_⟩))
  go_ret
  exact ⟨eqA, by repeat (first | exact Drawn0.refl _ | apply Drawn0.step)⟩
 rw [if_neg c8] at H
 have c8b0 : decide (a0 < a1) = false := decide_eq_false c8
 clear c8
 by_cases c9 : a0 > a1
 ·rw [if_pos c9] at H
  have c9b0 : decide (a1 < a0) = true := decide_eq_true c9
  clear c9
  obtain rfl := Option.some.inj H
  go_enter Try.func113, Try.ntmps113
  go_wp2_with (first | ((with_reducible refine gate_callee (f := 129) rfl ?_); refine goesM_ (some 8) rfl rfl Try.func129 (by kernel_rfl) rfl #[.int .i64 a0] rfl ?_; (with_reducible refine (cmp_isNaN_int.calls a0 false _ A3.out).mono ?_); rintro e w' ⟨rfl, ⟨nd, rfl⟩⟩; refine ⟨_, rfl, ?_⟩) | ((with_reducible refine gate_callee (f := 129) rfl ?_); refine goesM_ (some 10) rfl rfl Try.func129 (by kernel_rfl) rfl #[.int .i64 a1] rfl ?_; (with_reducible refine (cmp_isNaN_int.calls a1 false _ A4.out).mono ?_); rintro e w' ⟨rfl, ⟨nd, rfl⟩⟩; refine ⟨_, rfl, ?_⟩))
  go_ret
  exact ⟨eqA, by repeat (first | exact Drawn0.refl _ | apply Drawn0.step)⟩
 rw [if_neg c9] at H
 have c9b0 : decide (a1 < a0) = false := decide_eq_false c9
 clear c9
 obtain rfl := Option.some.inj H
 go_enter Try.func113, Try.ntmps113
 go_wp2_with (first | ((with_reducible refine gate_callee (f := 129) rfl ?_); refine goesM_ (some 8) rfl rfl Try.func129 (by kernel_rfl) rfl #[.int .i64 a0] rfl ?_; (with_reducible refine (cmp_isNaN_int.calls a0 false _ A3.out).mono ?_); rintro e w' ⟨rfl, ⟨nd, rfl⟩⟩; refine ⟨_, rfl, ?_⟩) | ((with_reducible refine gate_callee (f := 129) rfl ?_); refine goesM_ (some 10) rfl rfl Try.func129 (by kernel_rfl) rfl #[.int .i64 a1] rfl ?_; (with_reducible refine (cmp_isNaN_int.calls a1 false _ A4.out).mono ?_); rintro e w' ⟨rfl, ⟨nd, rfl⟩⟩; refine ⟨_, rfl, ?_⟩))
 go_ret
 exact ⟨eqA, by repeat (first | exact Drawn0.refl _ | apply Drawn0.step)⟩
def impl_compareEdges.f (a0_0 : Int) (a0_1 : Int) (a1_0 : Int) (a1_1 : Int) : Option (Int) := (cmp_Compare_int.f a0_0 a1_0).bind fun t271 => (if t271 = 0 then ((cmp_Compare_int.f a0_1 a1_1).bind fun t272 => (some t272)) else (some t271))
set_option maxHeartbeats 8000000 in
set_option maxRecDepth 100000 in
theorem impl_compareEdges.calls (a0_0 : Int) (a0_1 : Int) (a1_0 : Int) (a1_1 : Int) (r : Int) (w : World) (h : impl_compareEdges.f a0_0 a0_1 a1_0 a1_1 = some r) :
  Calls Try.prog 88 #[.agg #[.int .i64 a0_0, .int .i64 a0_1], .agg #[.int .i64 a1_0, .int .i64 a1_1]] w fun e w' => e = .returned (.int .i64 r) ∧ Below w.heap.size w w' := by
 have hu67 := Try.underlying67
 have HB := Aside0.mk (Below.refl w.heap.size w)
 have H : ((cmp_Compare_int.f a0_0 a1_0).bind fun t271 => (if t271 = 0 then ((cmp_Compare_int.f a0_1 a1_1).bind fun t272 => (some t272)) else (some t271))) = some r := h
 clear h
 replace H := Option.bind_eq_some_iff.mp H
 obtain ⟨t271, A30, H⟩ := H
 replace H : (if t271 = 0 then ((cmp_Compare_int.f a0_1 a1_1).bind fun t272 => (some t272)) else (some t271)) = some r := H
 have A3 := Aside0.mk A30
 clear A30
 by_cases c4 : t271 = 0
 ·rw [if_pos c4] at H
  have c4b0 : (t271 == 0) = true := beq_iff_eq.mpr c4
  have c4b1 : (t271 != 0) = false := bne_eq_false_iff_eq.mpr c4
  clear c4
  replace H := Option.bind_eq_some_iff.mp H
  obtain ⟨t272, A50, H⟩ := H
  replace H : (some t272) = some r := H
  have A5 := Aside0.mk A50
  clear A50
  obtain rfl := Option.some.inj H
  go_enter Try.func88, Try.ntmps88
  go_wp2_with (first | ((with_reducible refine gate_dst (N := 2) rfl ?_); refine box_event ?hg (N := 2) ?hd (cs := #[.int .i64 a0_0, .int .i64 a0_1]) (t := 67) ?hr ?_; (case hd => rfl); (case hg => rfl); (case hr => first | (go_simp; done) | (go_simp; rfl)); intro gb269 hg w6 hbox hb; have BK269 := Aside0.mk (hbox); have GW269 := Aside0.mk ((by rw [hg]; exact (below_size (Lz HB)) : w.heap.size ≤ gb269)); have GE269 := Aside0.mk ((by rw [hg]; exact (below_size (Lz HB)) : w.heap.size ≤ gb269)); replace HB := Aside0.mk (below_step (Lz HB) hb); clear hb hbox hg) | ((with_reducible refine gate_dst (N := 3) rfl ?_); refine box_event ?hg (N := 3) ?hd (cs := #[.int .i64 a1_0, .int .i64 a1_1]) (t := 67) ?hr ?_; (case hd => rfl); (case hg => rfl); (case hr => first | (go_simp; done) | (go_simp; rfl)); intro gb270 hg w7 hbox hb; have BK270 := Aside0.mk (hbox); have GW270 := Aside0.mk ((by rw [hg]; exact (below_size (by exact Lz1 HB GE269)) : w.heap.size ≤ gb270)); have GE270 := Aside0.mk ((by rw [hg]; exact (below_size (by exact Lz1 HB GE269)) : w.heap.size ≤ gb270)); replace HB := Aside0.mk (below_step (by exact Lz1 HB GE269) hb); have NB269_270 := Aside0.mk ((by rw [hg]; exact Nat.ne_of_lt (blk_lt (g := gb269) (o := .cells #[.int .i64 a0_0, .int .i64 a0_1] 67 (0, 0)) (Bz BK269)) : gb269 ≠ gb270)); have NB270_269 := Aside0.mk ((by rw [hg]; exact Nat.ne_of_gt (blk_lt (g := gb269) (o := .cells #[.int .i64 a0_0, .int .i64 a0_1] 67 (0, 0)) (Bz BK269)) : gb270 ≠ gb269)); replace BK269 := Aside0.mk (blk_below (g := gb269) (o := .cells #[.int .i64 a0_0, .int .i64 a0_1] 67 (0, 0)) (Bz BK269) hb); clear hb hbox hg; have hnb8 := NB269_270.out; have hnc8 := NB270_269.out; have hcz9_0 : w7.cell? ⟨gb269, 0, none⟩ = some (.int .i64 a0_0) := (blk_cell BK269.out 0).trans rfl; have hcz9_1 : w7.cell? ⟨gb269, 1, none⟩ = some (.int .i64 a0_1) := (blk_cell BK269.out 1).trans rfl; have hfz9_0 := blk_frozen BK269.out 0; have hfz9_1 := blk_frozen BK269.out 1; have hcz10_0 : w7.cell? ⟨gb270, 0, none⟩ = some (.int .i64 a1_0) := (blk_cell BK270.out 0).trans rfl; have hcz10_1 : w7.cell? ⟨gb270, 1, none⟩ = some (.int .i64 a1_1) := (blk_cell BK270.out 1).trans rfl; have hfz10_0 := blk_frozen BK270.out 0; have hfz10_1 := blk_frozen BK270.out 1) | ((with_reducible refine gate_callee (f := 113) rfl ?_); refine goesM_ (some 10) rfl rfl Try.func113 (by kernel_rfl) rfl #[.int .i64 a0_0, .int .i64 a1_0] rfl ?_; (with_reducible refine (cmp_Compare_int.calls a0_0 a1_0 t271 _ A3.out).mono ?_); rintro e w' ⟨rfl, ⟨nd, rfl⟩⟩; refine ⟨_, rfl, ?_⟩) | ((with_reducible refine gate_callee (f := 113) rfl ?_); refine goesM_ (some 18) rfl rfl Try.func113 (by kernel_rfl) rfl #[.int .i64 a0_1, .int .i64 a1_1] rfl ?_; (with_reducible refine (cmp_Compare_int.calls a0_1 a1_1 t272 _ A5.out).mono ?_); rintro e w' ⟨rfl, ⟨nd, rfl⟩⟩; refine ⟨_, rfl, ?_⟩))
  go_ret
  exact ⟨by first | rfl | (simp [errW_none, errW_some] <;> rfl) | (simp [*, errW_none, errW_some] <;> rfl), by exact Lz2 HB GE269 GE270⟩
 rw [if_neg c4] at H
 have c4b0 : (t271 == 0) = false := beq_eq_false_iff_ne.mpr c4
 have c4b1 : (t271 != 0) = true := bne_iff_ne.mpr c4
 obtain rfl := Option.some.inj H
 go_enter Try.func88, Try.ntmps88
 go_wp2_with (first | ((with_reducible refine gate_dst (N := 2) rfl ?_); refine box_event ?hg (N := 2) ?hd (cs := #[.int .i64 a0_0, .int .i64 a0_1]) (t := 67) ?hr ?_; (case hd => rfl); (case hg => rfl); (case hr => first | (go_simp; done) | (go_simp; rfl)); intro gb269 hg w11 hbox hb; have BK269 := Aside0.mk (hbox); have GW269 := Aside0.mk ((by rw [hg]; exact (below_size (Lz HB)) : w.heap.size ≤ gb269)); have GE269 := Aside0.mk ((by rw [hg]; exact (below_size (Lz HB)) : w.heap.size ≤ gb269)); replace HB := Aside0.mk (below_step (Lz HB) hb); clear hb hbox hg) | ((with_reducible refine gate_dst (N := 3) rfl ?_); refine box_event ?hg (N := 3) ?hd (cs := #[.int .i64 a1_0, .int .i64 a1_1]) (t := 67) ?hr ?_; (case hd => rfl); (case hg => rfl); (case hr => first | (go_simp; done) | (go_simp; rfl)); intro gb270 hg w12 hbox hb; have BK270 := Aside0.mk (hbox); have GW270 := Aside0.mk ((by rw [hg]; exact (below_size (by exact Lz1 HB GE269)) : w.heap.size ≤ gb270)); have GE270 := Aside0.mk ((by rw [hg]; exact (below_size (by exact Lz1 HB GE269)) : w.heap.size ≤ gb270)); replace HB := Aside0.mk (below_step (by exact Lz1 HB GE269) hb); have NB269_270 := Aside0.mk ((by rw [hg]; exact Nat.ne_of_lt (blk_lt (g := gb269) (o := .cells #[.int .i64 a0_0, .int .i64 a0_1] 67 (0, 0)) (Bz BK269)) : gb269 ≠ gb270)); have NB270_269 := Aside0.mk ((by rw [hg]; exact Nat.ne_of_gt (blk_lt (g := gb269) (o := .cells #[.int .i64 a0_0, .int .i64 a0_1] 67 (0, 0)) (Bz BK269)) : gb270 ≠ gb269)); replace BK269 := Aside0.mk (blk_below (g := gb269) (o := .cells #[.int .i64 a0_0, .int .i64 a0_1] 67 (0, 0)) (Bz BK269) hb); clear hb hbox hg; have hnb13 := NB269_270.out; have hnc13 := NB270_269.out; have hcz14_0 : w12.cell? ⟨gb269, 0, none⟩ = some (.int .i64 a0_0) := (blk_cell BK269.out 0).trans rfl; have hcz14_1 : w12.cell? ⟨gb269, 1, none⟩ = some (.int .i64 a0_1) := (blk_cell BK269.out 1).trans rfl; have hfz14_0 := blk_frozen BK269.out 0; have hfz14_1 := blk_frozen BK269.out 1; have hcz15_0 : w12.cell? ⟨gb270, 0, none⟩ = some (.int .i64 a1_0) := (blk_cell BK270.out 0).trans rfl; have hcz15_1 : w12.cell? ⟨gb270, 1, none⟩ = some (.int .i64 a1_1) := (blk_cell BK270.out 1).trans rfl; have hfz15_0 := blk_frozen BK270.out 0; have hfz15_1 := blk_frozen BK270.out 1) | ((with_reducible refine gate_callee (f := 113) rfl ?_); refine goesM_ (some 10) rfl rfl Try.func113 (by kernel_rfl) rfl #[.int .i64 a0_0, .int .i64 a1_0] rfl ?_; (with_reducible refine (cmp_Compare_int.calls a0_0 a1_0 t271 _ A3.out).mono ?_); rintro e w' ⟨rfl, ⟨nd, rfl⟩⟩; refine ⟨_, rfl, ?_⟩))
 go_ret
 exact ⟨by first | rfl | (simp [errW_none, errW_some] <;> rfl) | (simp [*, errW_none, errW_some] <;> rfl), by exact Lz2 HB GE269 GE270⟩
def slices_IsSortedFunc_Edge.l0 : Nat → List (S67) → Int → Option (Bool)
 | 0, _, _ => none
 | k + 1, x0, x5 => if x5 > 0 then (if 0 ≤ x5 then (if x5 < (x0.length : Int) then (if 0 ≤ (wrap64 (x5 - 1)) then (if (wrap64 (x5 - 1)) < (x0.length : Int) then ((impl_compareEdges.f ((rd_T67 x0 x5).f0) ((rd_T67 x0 x5).f1) ((rd_T67 x0 (wrap64 (x5 - 1))).f0) ((rd_T67 x0 (wrap64 (x5 - 1))).f1)).bind fun t279 => (if t279 < 0 then (some false) else (slices_IsSortedFunc_Edge.l0 k x0 (wrap64 (x5 - 1))))) else (none)) else (none)) else (none)) else (none)) else (some true)
def slices_IsSortedFunc_Edge.f (k : Nat) (l0 : List (S67))  : Option (Bool) := slices_IsSortedFunc_Edge.l0 k l0 (wrap64 ((l0.length : Int) - 1))
def slices_IsSortedFunc_Edge.T4 : Bool × List (List Nat × List Nat) := (true, [([], []), ([], []), ([], []), ([1, 2], [1, 2]), ([3], [3]), ([], []), ([], []), ([6], [6]), ([5, 7], [5, 7]), ([8], [8]), ([0, 4, 9], [0, 4, 9]), ([10], [10])])
def slices_IsSortedFunc_Edge.B4 : List Nat := [0, 0, 0, 6, 14, 0, 0, 64, 224, 480, 1023, 2047]
theorem slices_IsSortedFunc_Edge.tab4 : rtab .any (opsOf Try.f90 4) = slices_IsSortedFunc_Edge.T4 := by kernel_rfl
theorem slices_IsSortedFunc_Edge.bits4 : waitsOk slices_IsSortedFunc_Edge.T4.2 slices_IsSortedFunc_Edge.B4 = true := by kernel_rfl
set_option maxHeartbeats 8000000 in
set_option maxRecDepth 100000 in
theorem slices_IsSortedFunc_Edge.calls (k : Nat) (A0 : Option Addr) (c0 : Nat) (l0 : List (S67))  (r : Bool) (w : World) (hr0 : Kd.C k67 w A0 l0.length l0) (hc0 : l0.length ≤ c0) (h : slices_IsSortedFunc_Edge.f k l0 = some r) :
  Calls Try.prog 90 #[.slice A0 l0.length c0, .func (.func 88) #[] #[]] w fun e w' => e = .returned (.bool r) ∧ Below w.heap.size w w' := by
 have hu67 := Try.underlying67
 have HR0 := Aside0.mk hr0
 have HC0 := Aside0.mk hc0
 clear hr0 hc0
 have HB := Aside0.mk (Below.refl w.heap.size w)
 have H : (slices_IsSortedFunc_Edge.l0 k l0 (wrap64 ((l0.length : Int) - 1))) = some r := h
 clear h
 have H' := Aside0.mk H
 clear H
 go_enter Try.func90, Try.ntmps90
 go_wp2
 go_loopg [5] k (fun kq v5 w' => ∃ (x5_1 : Int), v5 = .int .i64 x5_1 ∧ Aside0 (slices_IsSortedFunc_Edge.l0 kq l0 x5_1 = some r) ∧ Aside0 (kq ≤ k) ∧ Aside0 (Below w.heap.size w w'))
 case atStart => exact ⟨(wrap64 ((l0.length : Int) - 1)), eqA, H', ⟨Nat.le_refl _⟩, ⟨by exact Lz HB⟩⟩
 case round =>
  clear H'
  obtain ⟨x5_1, rfl, HA, HK1, HB⟩ := hrel
  cases gk with
  | zero => exact absurd HA.out (by simp [slices_IsSortedFunc_Edge.l0])
  | succ k1 =>
   have H := HA.out
   clear HA
   simp only [slices_IsSortedFunc_Edge.l0] at H
   by_cases c3 : x5_1 > 0
   ·rw [if_pos c3] at H
    have c3b0 : decide (0 < x5_1) = true := decide_eq_true c3
    clear c3
    by_cases c4 : 0 ≤ x5_1
    ·rw [if_pos c4] at H
     have c4b0 : decide (0 ≤ x5_1) = true := decide_eq_true c4
     clear c4
     by_cases c5 : x5_1 < (l0.length : Int)
     ·rw [if_pos c5] at H
      have c5b0 : decide (x5_1 < (l0.length : Int)) = true := decide_eq_true c5
      clear c5
      obtain ⟨ji6, hji6⟩ : ∃ j_ : Int, (wrap64 (x5_1 - 1)) = j_ := ⟨_, rfl⟩
      replace H : (if 0 ≤ (ji6) then (if (ji6) < (l0.length : Int) then ((impl_compareEdges.f ((rd_T67 l0 x5_1).f0) ((rd_T67 l0 x5_1).f1) ((rd_T67 l0 (ji6)).f0) ((rd_T67 l0 (ji6)).f1)).bind fun t279 => (if t279 < 0 then (some false) else (slices_IsSortedFunc_Edge.l0 k1 l0 ji6))) else (none)) else (none)) = some r := by first | (rw [hji6] at H; exact H) | (simp only [hji6] at H ⊢; exact H)
      have hji6w : (IntKind.i64.wrap (x5_1 - 1)) = ji6 := (i64_w _).trans hji6
      by_cases c7 : 0 ≤ (ji6)
      ·rw [if_pos c7] at H
       have c7b0 : decide (0 ≤ (ji6)) = true := decide_eq_true c7
       clear c7
       by_cases c8 : (ji6) < (l0.length : Int)
       ·rw [if_pos c8] at H
        have c8b0 : decide ((ji6) < (l0.length : Int)) = true := decide_eq_true c8
        clear c8
        replace H := Option.bind_eq_some_iff.mp H
        obtain ⟨t279, A90, H⟩ := H
        replace H : (if t279 < 0 then (some false) else (slices_IsSortedFunc_Edge.l0 k1 l0 ji6)) = some r := H
        have A9 := Aside0.mk A90
        clear A90
        by_cases c10 : t279 < 0
        ·rw [if_pos c10] at H
         have c10b0 : decide (t279 < 0) = true := decide_eq_true c10
         clear c10
         obtain rfl := Option.some.inj H
         try go_wp2
         replace HB := Aside0.mk (below_drew1 HB.out)
         have p277 : 0 ≤ (x5_1 : Int) := ofA
         have q277 : x5_1 < (l0.length : Int) := ofA
         obtain ⟨ad277, e277, hx277_0, hx277_1⟩ := at_T67 HR0.out x5_1 p277 q277
         have hw277_1 := hx277_1
         have hw277_0 := hx277_0
         cases e277
         replace hx277_0 := (HB.out.cell (World.block_lt_of_cell? w _ hx277_0)).trans hx277_0
         replace hx277_1 := (HB.out.cell (World.block_lt_of_cell? w _ hx277_1)).trans hx277_1
         replace p277 := eq_true p277
         replace q277 := eq_true q277
         have p278 : 0 ≤ ((ji6) : Int) := ofA
         have q278 : (ji6) < (l0.length : Int) := ofA
         obtain ⟨ad278, e278, hx278_0, hx278_1⟩ := at_T67 HR0.out (ji6) p278 q278
         have hw278_1 := hx278_1
         have hw278_0 := hx278_0
         obtain rfl : ad277 = ad278 := (by injection e278)
         replace hx278_0 := (HB.out.cell (World.block_lt_of_cell? w _ hx278_0)).trans hx278_0
         replace hx278_1 := (HB.out.cell (World.block_lt_of_cell? w _ hx278_1)).trans hx278_1
         replace p278 := eq_true p278
         replace q278 := eq_true q278
         refine start_ (n := 12) (S := fun w' => w'.cell? (ad277.add ((x5_1).toNat * 2)) = some (.int .i64 ((rd_T67 l0 x5_1).f0)) ∧ w'.cell? ⟨(ad277.add ((x5_1).toNat * 2)).block, (ad277.add ((x5_1).toNat * 2)).off + 1, none⟩ = some (.int .i64 ((rd_T67 l0 x5_1).f1)) ∧ w'.cell? (ad277.add (((ji6)).toNat * 2)) = some (.int .i64 ((rd_T67 l0 (ji6)).f0)) ∧ w'.cell? ⟨(ad277.add (((ji6)).toNat * 2)).block, (ad277.add (((ji6)).toNat * 2)).off + 1, none⟩ = some (.int .i64 ((rd_T67 l0 (ji6)).f1))) (ds := []) #[false, false, false, false, false, false, false, false, false, false, false, false] (by kernel_rfl) rfl rfl ⟨((HB.out.cell (World.block_lt_of_cell? w _ hw277_0)).trans hw277_0), ((HB.out.cell (World.block_lt_of_cell? w _ hw277_1)).trans hw277_1), ((HB.out.cell (World.block_lt_of_cell? w _ hw278_0)).trans hw278_0), ((HB.out.cell (World.block_lt_of_cell? w _ hw278_1)).trans hw278_1)⟩ (fun hHeld => ?_); refine with_tabW slices_IsSortedFunc_Edge.tab4 slices_IsSortedFunc_Edge.bits4 (fun HT_ HW_ => ?_)
         generalize wr.drew = w11 at HB hx277_0 hx277_1 hx278_0 hx278_1 hHeld ⊢
         refine pureT_ 0 13 HT_ ?_
         refine pureT_ 1 14 HT_ ?_
         refine pureT_ 2 15 HT_ ?_
         refine pureT_ 3 16 HT_ ?_
         refine pureT_ 5 18 HT_ ?_
         refine pureT_ 6 19 HT_ ?_
         refine pureT_ 7 20 HT_ ?_
         refine pureT_ 8 21 HT_ ?_
         refine takeT_ 4 17 HT_ HW_ hHeld rfl (by rintro w' ⟨s0, s1, s2, s3⟩; go_simp; with_reducible rfl) ?_
         refine takeT_ 9 22 HT_ HW_ hHeld rfl (by rintro w' ⟨s0, s1, s2, s3⟩; go_simp; with_reducible rfl) ?_
         refine one_ (i := 10) (N := some 23) #[true, true, true, true, true, true, true, true, true, true, true, false] rfl rfl (one_of HT_.out (by kernel_rfl)) (by decide) (fun K hK => ?_)
         refine goesF_ Try.func88 (by kernel_rfl) rfl #[.agg #[.int .i64 ((rd_T67 l0 x5_1).f0), .int .i64 ((rd_T67 l0 x5_1).f1)], .agg #[.int .i64 ((rd_T67 l0 (ji6)).f0), .int .i64 ((rd_T67 l0 (ji6)).f1)]] (by rfl) rfl rfl rfl (by (try simp only [List.map_toArray, List.map_cons, List.map_nil]); first | done | (simp only [hji6]; rfl) | rfl | (simp only [List.length_drop, List.length_take]; rfl)) ?_
         with_reducible refine (impl_compareEdges.calls ((rd_T67 l0 x5_1).f0) ((rd_T67 l0 x5_1).f1) ((rd_T67 l0 (ji6)).f0) ((rd_T67 l0 (ji6)).f1) t279 _ A9.out).mono ?_
         rintro e w12 ⟨rfl, hb⟩
         refine ⟨_, rfl, ?_⟩
         replace HB := Aside0.mk (below_step (Lz HB) hb)
         (try clear hb)
         (try clear hb2)
         (try clear hk)
         (try clear hi)
         refine hK.out _ _ ⟨((HB.out.cell (World.block_lt_of_cell? w _ hw277_0)).trans hw277_0), ((HB.out.cell (World.block_lt_of_cell? w _ hw277_1)).trans hw277_1), ((HB.out.cell (World.block_lt_of_cell? w _ hw278_0)).trans hw278_0), ((HB.out.cell (World.block_lt_of_cell? w _ hw278_1)).trans hw278_1)⟩ (fun hHeld => ?_)
         clear hK K
         refine norm_ (a' := ?_) ?_ ?_
         rotate_left
         ·show Act.put _ (some 23) _ = _
          simp only [Act.put, List.setIfInBounds_toArray, List.set_cons_zero, List.set_cons_succ, i64_w, i32_w]
          rfl
         refine pureT_ 11 24 HT_ ?_
         refine done_ (done_of HT_.out (by kernel_rfl)) ?_
         try go_wp2
         go_ret
         exact ⟨by first | rfl | (simp [errW_none, errW_some] <;> rfl) | (simp only [← hji6]; first | rfl | (simp [errW_none, errW_some] <;> rfl)) | (simp [*, errW_none, errW_some] <;> rfl), by exact Lz HB⟩
        rw [if_neg c10] at H
        have c10b0 : decide (t279 < 0) = false := decide_eq_false c10
        clear c10
        have H' := Aside0.mk H
        clear H
        try go_wp2
        replace HB := Aside0.mk (below_drew1 HB.out)
        have p277 : 0 ≤ (x5_1 : Int) := ofA
        have q277 : x5_1 < (l0.length : Int) := ofA
        obtain ⟨ad277, e277, hx277_0, hx277_1⟩ := at_T67 HR0.out x5_1 p277 q277
        have hw277_1 := hx277_1
        have hw277_0 := hx277_0
        cases e277
        replace hx277_0 := (HB.out.cell (World.block_lt_of_cell? w _ hx277_0)).trans hx277_0
        replace hx277_1 := (HB.out.cell (World.block_lt_of_cell? w _ hx277_1)).trans hx277_1
        replace p277 := eq_true p277
        replace q277 := eq_true q277
        have p278 : 0 ≤ ((ji6) : Int) := ofA
        have q278 : (ji6) < (l0.length : Int) := ofA
        obtain ⟨ad278, e278, hx278_0, hx278_1⟩ := at_T67 HR0.out (ji6) p278 q278
        have hw278_1 := hx278_1
        have hw278_0 := hx278_0
        obtain rfl : ad277 = ad278 := (by injection e278)
        replace hx278_0 := (HB.out.cell (World.block_lt_of_cell? w _ hx278_0)).trans hx278_0
        replace hx278_1 := (HB.out.cell (World.block_lt_of_cell? w _ hx278_1)).trans hx278_1
        replace p278 := eq_true p278
        replace q278 := eq_true q278
        refine start_ (n := 12) (S := fun w' => w'.cell? (ad277.add ((x5_1).toNat * 2)) = some (.int .i64 ((rd_T67 l0 x5_1).f0)) ∧ w'.cell? ⟨(ad277.add ((x5_1).toNat * 2)).block, (ad277.add ((x5_1).toNat * 2)).off + 1, none⟩ = some (.int .i64 ((rd_T67 l0 x5_1).f1)) ∧ w'.cell? (ad277.add (((ji6)).toNat * 2)) = some (.int .i64 ((rd_T67 l0 (ji6)).f0)) ∧ w'.cell? ⟨(ad277.add (((ji6)).toNat * 2)).block, (ad277.add (((ji6)).toNat * 2)).off + 1, none⟩ = some (.int .i64 ((rd_T67 l0 (ji6)).f1))) (ds := []) #[false, false, false, false, false, false, false, false, false, false, false, false] (by kernel_rfl) rfl rfl ⟨((HB.out.cell (World.block_lt_of_cell? w _ hw277_0)).trans hw277_0), ((HB.out.cell (World.block_lt_of_cell? w _ hw277_1)).trans hw277_1), ((HB.out.cell (World.block_lt_of_cell? w _ hw278_0)).trans hw278_0), ((HB.out.cell (World.block_lt_of_cell? w _ hw278_1)).trans hw278_1)⟩ (fun hHeld => ?_); refine with_tabW slices_IsSortedFunc_Edge.tab4 slices_IsSortedFunc_Edge.bits4 (fun HT_ HW_ => ?_)
        generalize wr.drew = w13 at HB hx277_0 hx277_1 hx278_0 hx278_1 hHeld ⊢
        refine pureT_ 0 13 HT_ ?_
        refine pureT_ 1 14 HT_ ?_
        refine pureT_ 2 15 HT_ ?_
        refine pureT_ 3 16 HT_ ?_
        refine pureT_ 5 18 HT_ ?_
        refine pureT_ 6 19 HT_ ?_
        refine pureT_ 7 20 HT_ ?_
        refine pureT_ 8 21 HT_ ?_
        refine takeT_ 4 17 HT_ HW_ hHeld rfl (by rintro w' ⟨s0, s1, s2, s3⟩; go_simp; with_reducible rfl) ?_
        refine takeT_ 9 22 HT_ HW_ hHeld rfl (by rintro w' ⟨s0, s1, s2, s3⟩; go_simp; with_reducible rfl) ?_
        refine one_ (i := 10) (N := some 23) #[true, true, true, true, true, true, true, true, true, true, true, false] rfl rfl (one_of HT_.out (by kernel_rfl)) (by decide) (fun K hK => ?_)
        refine goesF_ Try.func88 (by kernel_rfl) rfl #[.agg #[.int .i64 ((rd_T67 l0 x5_1).f0), .int .i64 ((rd_T67 l0 x5_1).f1)], .agg #[.int .i64 ((rd_T67 l0 (ji6)).f0), .int .i64 ((rd_T67 l0 (ji6)).f1)]] (by rfl) rfl rfl rfl (by (try simp only [List.map_toArray, List.map_cons, List.map_nil]); first | done | (simp only [hji6]; rfl) | rfl | (simp only [List.length_drop, List.length_take]; rfl)) ?_
        with_reducible refine (impl_compareEdges.calls ((rd_T67 l0 x5_1).f0) ((rd_T67 l0 x5_1).f1) ((rd_T67 l0 (ji6)).f0) ((rd_T67 l0 (ji6)).f1) t279 _ A9.out).mono ?_
        rintro e w14 ⟨rfl, hb⟩
        refine ⟨_, rfl, ?_⟩
        replace HB := Aside0.mk (below_step (Lz HB) hb)
        (try clear hb)
        (try clear hb2)
        (try clear hk)
        (try clear hi)
        refine hK.out _ _ ⟨((HB.out.cell (World.block_lt_of_cell? w _ hw277_0)).trans hw277_0), ((HB.out.cell (World.block_lt_of_cell? w _ hw277_1)).trans hw277_1), ((HB.out.cell (World.block_lt_of_cell? w _ hw278_0)).trans hw278_0), ((HB.out.cell (World.block_lt_of_cell? w _ hw278_1)).trans hw278_1)⟩ (fun hHeld => ?_)
        clear hK K
        refine norm_ (a' := ?_) ?_ ?_
        rotate_left
        ·show Act.put _ (some 23) _ = _
         simp only [Act.put, List.setIfInBounds_toArray, List.set_cons_zero, List.set_cons_succ, i64_w, i32_w]
         rfl
        refine pureT_ 11 24 HT_ ?_
        refine done_ (done_of HT_.out (by kernel_rfl)) ?_
        try go_wp2
        go_roundg k1
        case measure => have := HK1.out; omega
        case rel => exact ⟨(ji6), (by first | rfl | (simp; done) | (simp only [← hji6] <;> (first | rfl | simp)) | (simp [*]; done)), H', ⟨by have := HK1.out; omega⟩, ⟨by exact Lz HB⟩⟩
       rw [if_neg c8] at H
       exact absurd H (by simp)
      rw [if_neg c7] at H
      exact absurd H (by simp)
     rw [if_neg c5] at H
     exact absurd H (by simp)
    rw [if_neg c4] at H
    exact absurd H (by simp)
   rw [if_neg c3] at H
   have c3b0 : decide (0 < x5_1) = false := decide_eq_false c3
   clear c3
   obtain rfl := Option.some.inj H
   go_wp2
   go_ret
   exact ⟨by first | rfl | (simp [errW_none, errW_some] <;> rfl) | (simp [*, errW_none, errW_some] <;> rfl), by exact Lz HB⟩
mutual
def impl_connected.l0 : Nat → Int → List (S67) → Int → Int → Int → Option (Bool)
 | 0, _, _, _, _, _ => none
 | k + 1, x0, x1, x5, x8, x9 => if x9 < x8 then (impl_connected.l1 k x0 x1 x5 x8 x9 x1 (x1.length : Int) 0) else (if 0 ≤ x0 then (some (x5 == (wrap64 ((shl .i64 1 x0) - 1)))) else (none))
def impl_connected.l1 : Nat → Int → List (S67) → Int → Int → Int → List (S67) → Int → Int → Option (Bool)
 | 0, _, _, _, _, _, _, _, _ => none
 | k + 1, x0, x1, x5, x8, x9, x11, x12, x13 => if x13 < x12 then (if 0 ≤ x13 then (if x13 < (x11.length : Int) then (if 0 ≤ ((rd_T67 x11 x13).f0) then (if (Go.bits .and .i64 (shr .i64 x5 ((rd_T67 x11 x13).f0)) 1) = 1 then (if 0 ≤ ((rd_T67 x11 x13).f1) then (impl_connected.l1 k x0 x1 (Go.bits .or .i64 x5 (Go.bits .or .i64 (shl .i64 1 ((rd_T67 x11 x13).f0)) (shl .i64 1 ((rd_T67 x11 x13).f1)))) x8 x9 x11 x12 (wrap64 (x13 + 1))) else (none)) else (if 0 ≤ ((rd_T67 x11 x13).f1) then (if (Go.bits .and .i64 (shr .i64 x5 ((rd_T67 x11 x13).f1)) 1) = 1 then (impl_connected.l1 k x0 x1 (Go.bits .or .i64 x5 (Go.bits .or .i64 (shl .i64 1 ((rd_T67 x11 x13).f0)) (shl .i64 1 ((rd_T67 x11 x13).f1)))) x8 x9 x11 x12 (wrap64 (x13 + 1))) else (impl_connected.l1 k x0 x1 x5 x8 x9 x11 x12 (wrap64 (x13 + 1)))) else (none))) else (none)) else (none)) else (none)) else (impl_connected.l0 k x0 x1 x5 x8 (wrap64 (x9 + 1)))
end
def impl_connected.f (k : Nat) (a0 : Int) (l1 : List (S67)) : Option (Bool) := impl_connected.l0 k a0 l1 1 a0 0
set_option maxHeartbeats 8000000 in
set_option maxRecDepth 100000 in
theorem impl_connected.calls (k : Nat) (a0 : Int) (A1 : Option Addr) (c1 : Nat) (l1 : List (S67)) (r : Bool) (w : World) (hr1 : Kd.C k67 w A1 l1.length l1) (hc1 : l1.length ≤ c1) (h : impl_connected.f k a0 l1 = some r) :
  Calls Try.prog 91 #[.int .i64 a0, .slice A1 l1.length c1] w fun e w' => e = .returned (.bool r) ∧ Below w.heap.size w w' := by
 have hu67 := Try.underlying67
 have HR1 := Aside0.mk hr1
 have HC1 := Aside0.mk hc1
 clear hr1 hc1
 have HB := Aside0.mk (Below.refl w.heap.size w)
 have H : (impl_connected.l0 k a0 l1 1 a0 0) = some r := h
 clear h
 have H' := Aside0.mk H
 clear H
 go_enter Try.func91, Try.ntmps91
 go_wp2
 repeat (go_quiet (fail); try go_wp2)
 go_loopg [5, 9] k (fun kq v5 v9 w' => ∃ (x5_1 : Int) (x9_1 : Int), v5 = .int .i64 x5_1 ∧ v9 = .int .i64 x9_1 ∧ Aside0 (impl_connected.l0 kq a0 l1 x5_1 a0 x9_1 = some r) ∧ Aside0 (kq ≤ k) ∧ Aside0 (Below w.heap.size w w'))
 case atStart => exact ⟨(1), (0), eqA, eqA, H', ⟨Nat.le_refl _⟩, ⟨by exact Lz HB⟩⟩
 case round =>
  clear H'
  try clear c1
  obtain ⟨x5_1, x9_1, rfl, rfl, HA, HK1, HB⟩ := hrel
  cases gk with
  | zero => exact absurd HA.out (by simp [impl_connected.l0])
  | succ k1 =>
   have H := HA.out
   clear HA
   simp only [impl_connected.l0] at H
   by_cases c3 : x9_1 < a0
   ·rw [if_pos c3] at H
    have c3b0 : decide (x9_1 < a0) = true := decide_eq_true c3
    clear c3
    have H' := Aside0.mk H
    clear H
    go_wp2
    repeat (go_quiet (fail); try go_wp2)
    go_loopg [5, 13] k1 (fun kq v5 v13 w' => ∃ (x5_2 : Int) (x13_2 : Int), v5 = .int .i64 x5_2 ∧ v13 = .int .i64 x13_2 ∧ Aside0 (impl_connected.l1 kq a0 l1 x5_2 a0 x9_1 l1 (l1.length : Int) x13_2 = some r) ∧ Aside0 (kq ≤ k1) ∧ Aside0 (Below w.heap.size w w'))
    case atStart => exact ⟨(x5_1), (0), eqA, eqA, H', ⟨Nat.le_refl _⟩, ⟨by exact Lz HB⟩⟩
    case round =>
     clear H'
     try clear c1
     try clear c3
     try clear c3b0
     obtain ⟨x5_2, x13_2, rfl, rfl, HA, HK2, HB⟩ := hrel
     cases gk with
     | zero => exact absurd HA.out (by simp [impl_connected.l1])
     | succ k2 =>
      have H := HA.out
      clear HA
      simp only [impl_connected.l1] at H
      by_cases c4 : x13_2 < (l1.length : Int)
      ·rw [if_pos c4] at H
       have c4b0 : decide (x13_2 < (l1.length : Int)) = true := decide_eq_true c4
       clear c4
       by_cases c5 : 0 ≤ x13_2
       ·rw [if_pos c5] at H
        have c5b0 : decide (0 ≤ x13_2) = true := decide_eq_true c5
        clear c5
        by_cases c6 : x13_2 < (l1.length : Int)
        ·rw [if_pos c6] at H
         have c6b0 : decide (x13_2 < (l1.length : Int)) = true := decide_eq_true c6
         clear c6
         by_cases c7 : 0 ≤ ((rd_T67 l1 x13_2).f0)
         ·rw [if_pos c7] at H
          have c7b0 := eq_true c7
          have c7b1 : decide (0 ≤ ((rd_T67 l1 x13_2).f0)) = true := decide_eq_true c7
          clear c7
          obtain ⟨ji8, hji8⟩ : ∃ j_ : Int, (shr .i64 x5_2 ((rd_T67 l1 x13_2).f0)) = j_ := ⟨_, rfl⟩
          replace H : (if (Go.bits .and .i64 (ji8) 1) = 1 then (if 0 ≤ ((rd_T67 l1 x13_2).f1) then (impl_connected.l1 k2 a0 l1 (Go.bits .or .i64 x5_2 (Go.bits .or .i64 (shl .i64 1 ((rd_T67 l1 x13_2).f0)) (shl .i64 1 ((rd_T67 l1 x13_2).f1)))) a0 x9_1 l1 (l1.length : Int) (wrap64 (x13_2 + 1))) else (none)) else (if 0 ≤ ((rd_T67 l1 x13_2).f1) then (if (Go.bits .and .i64 (shr .i64 x5_2 ((rd_T67 l1 x13_2).f1)) 1) = 1 then (impl_connected.l1 k2 a0 l1 (Go.bits .or .i64 x5_2 (Go.bits .or .i64 (shl .i64 1 ((rd_T67 l1 x13_2).f0)) (shl .i64 1 ((rd_T67 l1 x13_2).f1)))) a0 x9_1 l1 (l1.length : Int) (wrap64 (x13_2 + 1))) else (impl_connected.l1 k2 a0 l1 x5_2 a0 x9_1 l1 (l1.length : Int) (wrap64 (x13_2 + 1)))) else (none))) = some r := by first | (rw [hji8] at H; exact H) | (simp only [hji8] at H ⊢; exact H)
          have hji8_ : (x5_2 / 2 ^ min ((rd_T67 l1 x13_2).f0).toNat 64) = ji8 := hji8
          have hji8z : ((rd_T67 l1 x13_2).f0) ≤ 64 → (x5_2 / 2 ^ ((rd_T67 l1 x13_2).f0).toNat) = ji8 := shr_small hji8
          by_cases c9 : (Go.bits .and .i64 (ji8) 1) = 1
          ·rw [if_pos c9] at H
           have c9b0 : ((Go.bits .and .i64 (ji8) 1) == 1) = true := beq_iff_eq.mpr c9
           have c9b1 : ((Go.bits .and .i64 (ji8) 1) != 1) = false := bne_eq_false_iff_eq.mpr c9
           clear c9
           have c10b0 := eq_true (ofA : 0 ≤ ((rd_T67 l1 x13_2).f0))
           obtain ⟨ji11, hji11⟩ : ∃ j_ : Int, (shl .i64 1 ((rd_T67 l1 x13_2).f0)) = j_ := ⟨_, rfl⟩
           replace H : (if 0 ≤ ((rd_T67 l1 x13_2).f1) then (impl_connected.l1 k2 a0 l1 (Go.bits .or .i64 x5_2 (Go.bits .or .i64 (ji11) (shl .i64 1 ((rd_T67 l1 x13_2).f1)))) a0 x9_1 l1 (l1.length : Int) (wrap64 (x13_2 + 1))) else (none)) = some r := by first | (rw [hji11] at H; exact H) | (simp only [hji11] at H ⊢; exact H)
           have hji11_ : (IntKind.i64.wrap (1 * 2 ^ min ((rd_T67 l1 x13_2).f0).toNat 64)) = ji11 := hji11
           have hji11z : ((rd_T67 l1 x13_2).f0) ≤ 64 → (IntKind.i64.wrap (1 * 2 ^ ((rd_T67 l1 x13_2).f0).toNat)) = ji11 := shl_small hji11
           have hji11u : (IntKind.i64.wrap (2 ^ min ((rd_T67 l1 x13_2).f0).toNat 64)) = ji11 := by have h_ := hji11_; rw [Int.one_mul] at h_; exact h_
           have hji11v : ((rd_T67 l1 x13_2).f0) ≤ 64 → (IntKind.i64.wrap (2 ^ ((rd_T67 l1 x13_2).f0).toNat)) = ji11 := fun hle_ => by have h_ := hji11z hle_; rw [Int.one_mul] at h_; exact h_
           have hji11y : (wrap64 (1 * 2 ^ min ((rd_T67 l1 x13_2).f0).toNat 64)) = ji11 := (i64_w _).symm.trans hji11_
           have hji11x : ((rd_T67 l1 x13_2).f0) ≤ 64 → (wrap64 (1 * 2 ^ ((rd_T67 l1 x13_2).f0).toNat)) = ji11 := fun h_ => (i64_w _).symm.trans (hji11z h_)
           by_cases c12 : 0 ≤ ((rd_T67 l1 x13_2).f1)
           ·rw [if_pos c12] at H
            have c12b0 := eq_true c12
            have c12b1 : decide (0 ≤ ((rd_T67 l1 x13_2).f1)) = true := decide_eq_true c12
            clear c12
            obtain ⟨ji13, hji13⟩ : ∃ j_ : Int, (shl .i64 1 ((rd_T67 l1 x13_2).f1)) = j_ := ⟨_, rfl⟩
            replace H : (impl_connected.l1 k2 a0 l1 (Go.bits .or .i64 x5_2 (Go.bits .or .i64 (ji11) (ji13))) a0 x9_1 l1 (l1.length : Int) (wrap64 (x13_2 + 1))) = some r := by first | (rw [hji13] at H; exact H) | (simp only [hji13] at H ⊢; exact H)
            have hji13_ : (IntKind.i64.wrap (1 * 2 ^ min ((rd_T67 l1 x13_2).f1).toNat 64)) = ji13 := hji13
            have hji13z : ((rd_T67 l1 x13_2).f1) ≤ 64 → (IntKind.i64.wrap (1 * 2 ^ ((rd_T67 l1 x13_2).f1).toNat)) = ji13 := shl_small hji13
            have hji13u : (IntKind.i64.wrap (2 ^ min ((rd_T67 l1 x13_2).f1).toNat 64)) = ji13 := by have h_ := hji13_; rw [Int.one_mul] at h_; exact h_
            have hji13v : ((rd_T67 l1 x13_2).f1) ≤ 64 → (IntKind.i64.wrap (2 ^ ((rd_T67 l1 x13_2).f1).toNat)) = ji13 := fun hle_ => by have h_ := hji13z hle_; rw [Int.one_mul] at h_; exact h_
            have hji13y : (wrap64 (1 * 2 ^ min ((rd_T67 l1 x13_2).f1).toNat 64)) = ji13 := (i64_w _).symm.trans hji13_
            have hji13x : ((rd_T67 l1 x13_2).f1) ≤ 64 → (wrap64 (1 * 2 ^ ((rd_T67 l1 x13_2).f1).toNat)) = ji13 := fun h_ => (i64_w _).symm.trans (hji13z h_)
            have H' := Aside0.mk H
            clear H
            have p280 : 0 ≤ (x13_2 : Int) := ofA
            have q280 : x13_2 < (l1.length : Int) := ofA
            obtain ⟨ad280, e280, hx280_0, hx280_1⟩ := at_T67 HR1.out x13_2 p280 q280
            cases e280
            replace hx280_0 := (HB.out.cell (World.block_lt_of_cell? w _ hx280_0)).trans hx280_0
            replace hx280_1 := (HB.out.cell (World.block_lt_of_cell? w _ hx280_1)).trans hx280_1
            replace p280 := eq_true p280
            replace q280 := eq_true q280
            go_wp2_with (first | ((with_reducible refine gate_dst (N := 7) rfl ?_); refine box_event ?hg (N := 7) ?hd (cs := #[.int .i64 0, .int .i64 0]) (t := 67) ?hr ?_; (case hd => rfl); (case hg => rfl); (case hr => first | (go_simp; done) | (go_simp; rfl)); intro gb281 hg w14 hbox hb; have BK281 := Aside0.mk (hbox); have GW281 := Aside0.mk ((by rw [hg]; exact (below_size (Lz HB)) : w.heap.size ≤ gb281)); have GE281 := Aside0.mk ((by rw [hg]; exact (below_size (Lz HB)) : w.heap.size ≤ gb281)); replace HB := Aside0.mk (below_step (Lz HB) hb); clear hb hbox hg; have hcz15_0 : w14.cell? ⟨gb281, 0, none⟩ = some (.int .i64 0) := (blk_cell BK281.out 0).trans rfl; have hcz15_1 : w14.cell? ⟨gb281, 1, none⟩ = some (.int .i64 0) := (blk_cell BK281.out 1).trans rfl; have hfz15_0 := blk_frozen BK281.out 0; have hfz15_1 := blk_frozen BK281.out 1))
            repeat (go_quiet (first | ((with_reducible refine gate_dst (N := 7) rfl ?_); refine box_event ?hg (N := 7) ?hd (cs := #[.int .i64 0, .int .i64 0]) (t := 67) ?hr ?_; (case hd => rfl); (case hg => rfl); (case hr => first | (go_simp; done) | (go_simp; rfl)); intro gb281 hg w14 hbox hb; have BK281 := Aside0.mk (hbox); have GW281 := Aside0.mk ((by rw [hg]; exact (below_size (Lz HB)) : w.heap.size ≤ gb281)); have GE281 := Aside0.mk ((by rw [hg]; exact (below_size (Lz HB)) : w.heap.size ≤ gb281)); replace HB := Aside0.mk (below_step (Lz HB) hb); clear hb hbox hg; have hcz15_0 : w14.cell? ⟨gb281, 0, none⟩ = some (.int .i64 0) := (blk_cell BK281.out 0).trans rfl; have hcz15_1 : w14.cell? ⟨gb281, 1, none⟩ = some (.int .i64 0) := (blk_cell BK281.out 1).trans rfl; have hfz15_0 := blk_frozen BK281.out 0; have hfz15_1 := blk_frozen BK281.out 1)); try go_wp2_with (first | ((with_reducible refine gate_dst (N := 7) rfl ?_); refine box_event ?hg (N := 7) ?hd (cs := #[.int .i64 0, .int .i64 0]) (t := 67) ?hr ?_; (case hd => rfl); (case hg => rfl); (case hr => first | (go_simp; done) | (go_simp; rfl)); intro gb281 hg w14 hbox hb; have BK281 := Aside0.mk (hbox); have GW281 := Aside0.mk ((by rw [hg]; exact (below_size (Lz HB)) : w.heap.size ≤ gb281)); have GE281 := Aside0.mk ((by rw [hg]; exact (below_size (Lz HB)) : w.heap.size ≤ gb281)); replace HB := Aside0.mk (below_step (Lz HB) hb); clear hb hbox hg; have hcz15_0 : w14.cell? ⟨gb281, 0, none⟩ = some (.int .i64 0) := (blk_cell BK281.out 0).trans rfl; have hcz15_1 : w14.cell? ⟨gb281, 1, none⟩ = some (.int .i64 0) := (blk_cell BK281.out 1).trans rfl; have hfz15_0 := blk_frozen BK281.out 0; have hfz15_1 := blk_frozen BK281.out 1)))
            go_roundg k2
            case measure => have := HK1.out; have := HK2.out; omega
            case rel => exact ⟨(Go.bits .or .i64 x5_2 (Go.bits .or .i64 (ji11) (ji13))), (wrap64 (x13_2 + 1)), (by first | rfl | (simp; done) | (simp only [← hji11, ← hji13] <;> (first | rfl | simp)) | (simp [*]; done)), eqA, H', ⟨by have := HK1.out; have := HK2.out; omega⟩, ⟨by exact Lz1 HB GE281⟩⟩
           rw [if_neg c12] at H
           exact absurd H (by simp)
          rw [if_neg c9] at H
          have c9b0 : ((Go.bits .and .i64 (ji8) 1) == 1) = false := beq_eq_false_iff_ne.mpr c9
          have c9b1 : ((Go.bits .and .i64 (ji8) 1) != 1) = true := bne_iff_ne.mpr c9
          by_cases c16 : 0 ≤ ((rd_T67 l1 x13_2).f1)
          ·rw [if_pos c16] at H
           have c16b0 := eq_true c16
           have c16b1 : decide (0 ≤ ((rd_T67 l1 x13_2).f1)) = true := decide_eq_true c16
           clear c16
           obtain ⟨ji17, hji17⟩ : ∃ j_ : Int, (shr .i64 x5_2 ((rd_T67 l1 x13_2).f1)) = j_ := ⟨_, rfl⟩
           replace H : (if (Go.bits .and .i64 (ji17) 1) = 1 then (impl_connected.l1 k2 a0 l1 (Go.bits .or .i64 x5_2 (Go.bits .or .i64 (shl .i64 1 ((rd_T67 l1 x13_2).f0)) (shl .i64 1 ((rd_T67 l1 x13_2).f1)))) a0 x9_1 l1 (l1.length : Int) (wrap64 (x13_2 + 1))) else (impl_connected.l1 k2 a0 l1 x5_2 a0 x9_1 l1 (l1.length : Int) (wrap64 (x13_2 + 1)))) = some r := by first | (rw [hji17] at H; exact H) | (simp only [hji17] at H ⊢; exact H)
           have hji17_ : (x5_2 / 2 ^ min ((rd_T67 l1 x13_2).f1).toNat 64) = ji17 := hji17
           have hji17z : ((rd_T67 l1 x13_2).f1) ≤ 64 → (x5_2 / 2 ^ ((rd_T67 l1 x13_2).f1).toNat) = ji17 := shr_small hji17
           by_cases c18 : (Go.bits .and .i64 (ji17) 1) = 1
           ·rw [if_pos c18] at H
            have c18b0 : ((Go.bits .and .i64 (ji17) 1) == 1) = true := beq_iff_eq.mpr c18
            have c18b1 : ((Go.bits .and .i64 (ji17) 1) != 1) = false := bne_eq_false_iff_eq.mpr c18
            clear c18
            have c19b0 := eq_true (ofA : 0 ≤ ((rd_T67 l1 x13_2).f0))
            obtain ⟨ji20, hji20⟩ : ∃ j_ : Int, (shl .i64 1 ((rd_T67 l1 x13_2).f0)) = j_ := ⟨_, rfl⟩
            replace H : (impl_connected.l1 k2 a0 l1 (Go.bits .or .i64 x5_2 (Go.bits .or .i64 (ji20) (shl .i64 1 ((rd_T67 l1 x13_2).f1)))) a0 x9_1 l1 (l1.length : Int) (wrap64 (x13_2 + 1))) = some r := by first | (rw [hji20] at H; exact H) | (simp only [hji20] at H ⊢; exact H)
            have hji20_ : (IntKind.i64.wrap (1 * 2 ^ min ((rd_T67 l1 x13_2).f0).toNat 64)) = ji20 := hji20
            have hji20z : ((rd_T67 l1 x13_2).f0) ≤ 64 → (IntKind.i64.wrap (1 * 2 ^ ((rd_T67 l1 x13_2).f0).toNat)) = ji20 := shl_small hji20
            have hji20u : (IntKind.i64.wrap (2 ^ min ((rd_T67 l1 x13_2).f0).toNat 64)) = ji20 := by have h_ := hji20_; rw [Int.one_mul] at h_; exact h_
            have hji20v : ((rd_T67 l1 x13_2).f0) ≤ 64 → (IntKind.i64.wrap (2 ^ ((rd_T67 l1 x13_2).f0).toNat)) = ji20 := fun hle_ => by have h_ := hji20z hle_; rw [Int.one_mul] at h_; exact h_
            have hji20y : (wrap64 (1 * 2 ^ min ((rd_T67 l1 x13_2).f0).toNat 64)) = ji20 := (i64_w _).symm.trans hji20_
            have hji20x : ((rd_T67 l1 x13_2).f0) ≤ 64 → (wrap64 (1 * 2 ^ ((rd_T67 l1 x13_2).f0).toNat)) = ji20 := fun h_ => (i64_w _).symm.trans (hji20z h_)
            have c21b0 := eq_true (ofA : 0 ≤ ((rd_T67 l1 x13_2).f1))
            obtain ⟨ji22, hji22⟩ : ∃ j_ : Int, (shl .i64 1 ((rd_T67 l1 x13_2).f1)) = j_ := ⟨_, rfl⟩
            replace H : (impl_connected.l1 k2 a0 l1 (Go.bits .or .i64 x5_2 (Go.bits .or .i64 (ji20) (ji22))) a0 x9_1 l1 (l1.length : Int) (wrap64 (x13_2 + 1))) = some r := by first | (rw [hji22] at H; exact H) | (simp only [hji22] at H ⊢; exact H)
            have hji22_ : (IntKind.i64.wrap (1 * 2 ^ min ((rd_T67 l1 x13_2).f1).toNat 64)) = ji22 := hji22
            have hji22z : ((rd_T67 l1 x13_2).f1) ≤ 64 → (IntKind.i64.wrap (1 * 2 ^ ((rd_T67 l1 x13_2).f1).toNat)) = ji22 := shl_small hji22
            have hji22u : (IntKind.i64.wrap (2 ^ min ((rd_T67 l1 x13_2).f1).toNat 64)) = ji22 := by have h_ := hji22_; rw [Int.one_mul] at h_; exact h_
            have hji22v : ((rd_T67 l1 x13_2).f1) ≤ 64 → (IntKind.i64.wrap (2 ^ ((rd_T67 l1 x13_2).f1).toNat)) = ji22 := fun hle_ => by have h_ := hji22z hle_; rw [Int.one_mul] at h_; exact h_
            have hji22y : (wrap64 (1 * 2 ^ min ((rd_T67 l1 x13_2).f1).toNat 64)) = ji22 := (i64_w _).symm.trans hji22_
            have hji22x : ((rd_T67 l1 x13_2).f1) ≤ 64 → (wrap64 (1 * 2 ^ ((rd_T67 l1 x13_2).f1).toNat)) = ji22 := fun h_ => (i64_w _).symm.trans (hji22z h_)
            have H' := Aside0.mk H
            clear H
            have p280 : 0 ≤ (x13_2 : Int) := ofA
            have q280 : x13_2 < (l1.length : Int) := ofA
            obtain ⟨ad280, e280, hx280_0, hx280_1⟩ := at_T67 HR1.out x13_2 p280 q280
            cases e280
            replace hx280_0 := (HB.out.cell (World.block_lt_of_cell? w _ hx280_0)).trans hx280_0
            replace hx280_1 := (HB.out.cell (World.block_lt_of_cell? w _ hx280_1)).trans hx280_1
            replace p280 := eq_true p280
            replace q280 := eq_true q280
            go_wp2_with (first | ((with_reducible refine gate_dst (N := 7) rfl ?_); refine box_event ?hg (N := 7) ?hd (cs := #[.int .i64 0, .int .i64 0]) (t := 67) ?hr ?_; (case hd => rfl); (case hg => rfl); (case hr => first | (go_simp; done) | (go_simp; rfl)); intro gb281 hg w23 hbox hb; have BK281 := Aside0.mk (hbox); have GW281 := Aside0.mk ((by rw [hg]; exact (below_size (Lz HB)) : w.heap.size ≤ gb281)); have GE281 := Aside0.mk ((by rw [hg]; exact (below_size (Lz HB)) : w.heap.size ≤ gb281)); replace HB := Aside0.mk (below_step (Lz HB) hb); clear hb hbox hg; have hcz24_0 : w23.cell? ⟨gb281, 0, none⟩ = some (.int .i64 0) := (blk_cell BK281.out 0).trans rfl; have hcz24_1 : w23.cell? ⟨gb281, 1, none⟩ = some (.int .i64 0) := (blk_cell BK281.out 1).trans rfl; have hfz24_0 := blk_frozen BK281.out 0; have hfz24_1 := blk_frozen BK281.out 1))
            repeat (go_quiet (first | ((with_reducible refine gate_dst (N := 7) rfl ?_); refine box_event ?hg (N := 7) ?hd (cs := #[.int .i64 0, .int .i64 0]) (t := 67) ?hr ?_; (case hd => rfl); (case hg => rfl); (case hr => first | (go_simp; done) | (go_simp; rfl)); intro gb281 hg w23 hbox hb; have BK281 := Aside0.mk (hbox); have GW281 := Aside0.mk ((by rw [hg]; exact (below_size (Lz HB)) : w.heap.size ≤ gb281)); have GE281 := Aside0.mk ((by rw [hg]; exact (below_size (Lz HB)) : w.heap.size ≤ gb281)); replace HB := Aside0.mk (below_step (Lz HB) hb); clear hb hbox hg; have hcz24_0 : w23.cell? ⟨gb281, 0, none⟩ = some (.int .i64 0) := (blk_cell BK281.out 0).trans rfl; have hcz24_1 : w23.cell? ⟨gb281, 1, none⟩ = some (.int .i64 0) := (blk_cell BK281.out 1).trans rfl; have hfz24_0 := blk_frozen BK281.out 0; have hfz24_1 := blk_frozen BK281.out 1)); try go_wp2_with (first | ((with_reducible refine gate_dst (N := 7) rfl ?_); refine box_event ?hg (N := 7) ?hd (cs := #[.int .i64 0, .int .i64 0]) (t := 67) ?hr ?_; (case hd => rfl); (case hg => rfl); (case hr => first | (go_simp; done) | (go_simp; rfl)); intro gb281 hg w23 hbox hb; have BK281 := Aside0.mk (hbox); have GW281 := Aside0.mk ((by rw [hg]; exact (below_size (Lz HB)) : w.heap.size ≤ gb281)); have GE281 := Aside0.mk ((by rw [hg]; exact (below_size (Lz HB)) : w.heap.size ≤ gb281)); replace HB := Aside0.mk (below_step (Lz HB) hb); clear hb hbox hg; have hcz24_0 : w23.cell? ⟨gb281, 0, none⟩ = some (.int .i64 0) := (blk_cell BK281.out 0).trans rfl; have hcz24_1 : w23.cell? ⟨gb281, 1, none⟩ = some (.int .i64 0) := (blk_cell BK281.out 1).trans rfl; have hfz24_0 := blk_frozen BK281.out 0; have hfz24_1 := blk_frozen BK281.out 1)))
            go_roundg k2
            case measure => have := HK1.out; have := HK2.out; omega
            case rel => exact ⟨(Go.bits .or .i64 x5_2 (Go.bits .or .i64 (ji20) (ji22))), (wrap64 (x13_2 + 1)), (by first | rfl | (simp; done) | (simp only [← hji20, ← hji22] <;> (first | rfl | simp)) | (simp [*]; done)), eqA, H', ⟨by have := HK1.out; have := HK2.out; omega⟩, ⟨by exact Lz1 HB GE281⟩⟩
           rw [if_neg c18] at H
           have c18b0 : ((Go.bits .and .i64 (ji17) 1) == 1) = false := beq_eq_false_iff_ne.mpr c18
           have c18b1 : ((Go.bits .and .i64 (ji17) 1) != 1) = true := bne_iff_ne.mpr c18
           have H' := Aside0.mk H
           clear H
           have p280 : 0 ≤ (x13_2 : Int) := ofA
           have q280 : x13_2 < (l1.length : Int) := ofA
           obtain ⟨ad280, e280, hx280_0, hx280_1⟩ := at_T67 HR1.out x13_2 p280 q280
           cases e280
           replace hx280_0 := (HB.out.cell (World.block_lt_of_cell? w _ hx280_0)).trans hx280_0
           replace hx280_1 := (HB.out.cell (World.block_lt_of_cell? w _ hx280_1)).trans hx280_1
           replace p280 := eq_true p280
           replace q280 := eq_true q280
           go_wp2_with (first | ((with_reducible refine gate_dst (N := 7) rfl ?_); refine box_event ?hg (N := 7) ?hd (cs := #[.int .i64 0, .int .i64 0]) (t := 67) ?hr ?_; (case hd => rfl); (case hg => rfl); (case hr => first | (go_simp; done) | (go_simp; rfl)); intro gb281 hg w25 hbox hb; have BK281 := Aside0.mk (hbox); have GW281 := Aside0.mk ((by rw [hg]; exact (below_size (Lz HB)) : w.heap.size ≤ gb281)); have GE281 := Aside0.mk ((by rw [hg]; exact (below_size (Lz HB)) : w.heap.size ≤ gb281)); replace HB := Aside0.mk (below_step (Lz HB) hb); clear hb hbox hg; have hcz26_0 : w25.cell? ⟨gb281, 0, none⟩ = some (.int .i64 0) := (blk_cell BK281.out 0).trans rfl; have hcz26_1 : w25.cell? ⟨gb281, 1, none⟩ = some (.int .i64 0) := (blk_cell BK281.out 1).trans rfl; have hfz26_0 := blk_frozen BK281.out 0; have hfz26_1 := blk_frozen BK281.out 1))
           repeat (go_quiet (first | ((with_reducible refine gate_dst (N := 7) rfl ?_); refine box_event ?hg (N := 7) ?hd (cs := #[.int .i64 0, .int .i64 0]) (t := 67) ?hr ?_; (case hd => rfl); (case hg => rfl); (case hr => first | (go_simp; done) | (go_simp; rfl)); intro gb281 hg w25 hbox hb; have BK281 := Aside0.mk (hbox); have GW281 := Aside0.mk ((by rw [hg]; exact (below_size (Lz HB)) : w.heap.size ≤ gb281)); have GE281 := Aside0.mk ((by rw [hg]; exact (below_size (Lz HB)) : w.heap.size ≤ gb281)); replace HB := Aside0.mk (below_step (Lz HB) hb); clear hb hbox hg; have hcz26_0 : w25.cell? ⟨gb281, 0, none⟩ = some (.int .i64 0) := (blk_cell BK281.out 0).trans rfl; have hcz26_1 : w25.cell? ⟨gb281, 1, none⟩ = some (.int .i64 0) := (blk_cell BK281.out 1).trans rfl; have hfz26_0 := blk_frozen BK281.out 0; have hfz26_1 := blk_frozen BK281.out 1)); try go_wp2_with (first | ((with_reducible refine gate_dst (N := 7) rfl ?_); refine box_event ?hg (N := 7) ?hd (cs := #[.int .i64 0, .int .i64 0]) (t := 67) ?hr ?_; (case hd => rfl); (case hg => rfl); (case hr => first | (go_simp; done) | (go_simp; rfl)); intro gb281 hg w25 hbox hb; have BK281 := Aside0.mk (hbox); have GW281 := Aside0.mk ((by rw [hg]; exact (below_size (Lz HB)) : w.heap.size ≤ gb281)); have GE281 := Aside0.mk ((by rw [hg]; exact (below_size (Lz HB)) : w.heap.size ≤ gb281)); replace HB := Aside0.mk (below_step (Lz HB) hb); clear hb hbox hg; have hcz26_0 : w25.cell? ⟨gb281, 0, none⟩ = some (.int .i64 0) := (blk_cell BK281.out 0).trans rfl; have hcz26_1 : w25.cell? ⟨gb281, 1, none⟩ = some (.int .i64 0) := (blk_cell BK281.out 1).trans rfl; have hfz26_0 := blk_frozen BK281.out 0; have hfz26_1 := blk_frozen BK281.out 1)))
           go_roundg k2
           case measure => have := HK1.out; have := HK2.out; omega
           case rel => exact ⟨(x5_2), (wrap64 (x13_2 + 1)), eqA, eqA, H', ⟨by have := HK1.out; have := HK2.out; omega⟩, ⟨by exact Lz1 HB GE281⟩⟩
          rw [if_neg c16] at H
          exact absurd H (by simp)
         rw [if_neg c7] at H
         exact absurd H (by simp)
        rw [if_neg c6] at H
        exact absurd H (by simp)
       rw [if_neg c5] at H
       exact absurd H (by simp)
      rw [if_neg c4] at H
      have c4b0 : decide (x13_2 < (l1.length : Int)) = false := decide_eq_false c4
      clear c4
      have H' := Aside0.mk H
      clear H
      go_wp2
      repeat (go_quiet (fail); try go_wp2)
      go_roundg k2
      case measure => have := HK1.out; have := HK2.out; omega
      case rel => exact ⟨(x5_2), (wrap64 (x9_1 + 1)), eqA, eqA, H', ⟨by have := HK1.out; have := HK2.out; omega⟩, ⟨by exact Lz HB⟩⟩
   rw [if_neg c3] at H
   have c3b0 : decide (x9_1 < a0) = false := decide_eq_false c3
   clear c3
   by_cases c27 : 0 ≤ a0
   ·rw [if_pos c27] at H
    have c27b0 := eq_true c27
    have c27b1 : decide (0 ≤ a0) = true := decide_eq_true c27
    clear c27
    obtain ⟨ji28, hji28⟩ : ∃ j_ : Int, (shl .i64 1 a0) = j_ := ⟨_, rfl⟩
    replace H : (some (x5_1 == (wrap64 ((ji28) - 1)))) = some r := by first | (rw [hji28] at H; exact H) | (simp only [hji28] at H ⊢; exact H)
    have hji28_ : (IntKind.i64.wrap (1 * 2 ^ min a0.toNat 64)) = ji28 := hji28
    have hji28z : a0 ≤ 64 → (IntKind.i64.wrap (1 * 2 ^ a0.toNat)) = ji28 := shl_small hji28
    have hji28u : (IntKind.i64.wrap (2 ^ min a0.toNat 64)) = ji28 := by have h_ := hji28_; rw [Int.one_mul] at h_; exact h_
    have hji28v : a0 ≤ 64 → (IntKind.i64.wrap (2 ^ a0.toNat)) = ji28 := fun hle_ => by have h_ := hji28z hle_; rw [Int.one_mul] at h_; exact h_
    have hji28y : (wrap64 (1 * 2 ^ min a0.toNat 64)) = ji28 := (i64_w _).symm.trans hji28_
    have hji28x : a0 ≤ 64 → (wrap64 (1 * 2 ^ a0.toNat)) = ji28 := fun h_ => (i64_w _).symm.trans (hji28z h_)
    obtain rfl := Option.some.inj H
    go_wp2
    repeat (go_quiet (fail); try go_wp2)
    go_ret
    exact ⟨by first | rfl | (simp [errW_none, errW_some] <;> rfl) | (simp only [← hji28]; first | rfl | (simp [errW_none, errW_some] <;> rfl)) | (simp [*, errW_none, errW_some] <;> rfl), by exact Lz HB⟩
   rw [if_neg c27] at H
   exact absurd H (by simp)
def impl_GraphOk.f (k : Nat) (a0_0 : Int) (l0_1 : List (S67)) : Option (Bool) := (impl_EdgesOk.f k a0_0 l0_1).bind fun t283 => (if t283 = true then ((slices_IsSortedFunc_Edge.f k l0_1).bind fun t284 => (if t284 = true then ((impl_connected.f k a0_0 l0_1).bind fun t285 => (some t285)) else (some false))) else (some false))
set_option maxHeartbeats 8000000 in
set_option maxRecDepth 100000 in
theorem impl_GraphOk.calls (k : Nat) (a0_0 : Int) (A0_1 : Option Addr) (c0_1 : Nat) (l0_1 : List (S67)) (r : Bool) (w : World) (hr0_1 : Kd.C k67 w A0_1 l0_1.length l0_1) (hc0_1 : l0_1.length ≤ c0_1) (h : impl_GraphOk.f k a0_0 l0_1 = some r) :
  Calls Try.prog 50 #[.agg #[.int .i64 a0_0, .slice A0_1 l0_1.length c0_1]] w fun e w' => e = .returned (.bool r) ∧ Below w.heap.size w w' := by
 have hu31 := Try.underlying31
 have HR0_1 := Aside0.mk hr0_1
 have HC0_1 := Aside0.mk hc0_1
 clear hr0_1 hc0_1
 have HB := Aside0.mk (Below.refl w.heap.size w)
 have H : ((impl_EdgesOk.f k a0_0 l0_1).bind fun t283 => (if t283 = true then ((slices_IsSortedFunc_Edge.f k l0_1).bind fun t284 => (if t284 = true then ((impl_connected.f k a0_0 l0_1).bind fun t285 => (some t285)) else (some false))) else (some false))) = some r := h
 clear h
 replace H := Option.bind_eq_some_iff.mp H
 obtain ⟨t283, A20, H⟩ := H
 replace H : (if t283 = true then ((slices_IsSortedFunc_Edge.f k l0_1).bind fun t284 => (if t284 = true then ((impl_connected.f k a0_0 l0_1).bind fun t285 => (some t285)) else (some false))) else (some false)) = some r := H
 have A2 := Aside0.mk A20
 clear A20
 by_cases c3 : t283 = true
 ·subst c3
  have H1 : ((slices_IsSortedFunc_Edge.f k l0_1).bind fun t284 => (if t284 = true then ((impl_connected.f k a0_0 l0_1).bind fun t285 => (some t285)) else (some false))) = some r := by rw [if_pos rfl] at H; exact H
  clear H
  have H := H1
  clear H1
  replace H := Option.bind_eq_some_iff.mp H
  obtain ⟨t284, A40, H⟩ := H
  replace H : (if t284 = true then ((impl_connected.f k a0_0 l0_1).bind fun t285 => (some t285)) else (some false)) = some r := H
  have A4 := Aside0.mk A40
  clear A40
  by_cases c5 : t284 = true
  ·subst c5
   have H1 : ((impl_connected.f k a0_0 l0_1).bind fun t285 => (some t285)) = some r := by rw [if_pos rfl] at H; exact H
   clear H
   have H := H1
   clear H1
   replace H := Option.bind_eq_some_iff.mp H
   obtain ⟨t285, A60, H⟩ := H
   replace H : (some t285) = some r := H
   have A6 := Aside0.mk A60
   clear A60
   obtain rfl := Option.some.inj H
   go_enter Try.func50, Try.ntmps50
   go_wp2_with (first | ((with_reducible refine gate_dst (N := 1) rfl ?_); refine box_event ?hg (N := 1) ?hd (cs := #[.int .i64 a0_0, .slice A0_1 l0_1.length c0_1]) (t := 31) ?hr ?_; (case hd => rfl); (case hg => rfl); (case hr => first | (go_simp; done) | (go_simp; rfl)); intro gb282 hg w7 hbox hb; have BK282 := Aside0.mk (hbox); have GW282 := Aside0.mk ((by rw [hg]; exact (below_size (Lz HB)) : w.heap.size ≤ gb282)); have GE282 := Aside0.mk ((by rw [hg]; exact (below_size (Lz HB)) : w.heap.size ≤ gb282)); replace HB := Aside0.mk (below_step (Lz HB) hb); clear hb hbox hg; have hcz8_0 : w7.cell? ⟨gb282, 0, none⟩ = some (.int .i64 a0_0) := (blk_cell BK282.out 0).trans rfl; have hcz8_1 : w7.cell? ⟨gb282, 1, none⟩ = some (.slice A0_1 l0_1.length c0_1) := (blk_cell BK282.out 1).trans rfl; have hfz8_0 := blk_frozen BK282.out 0; have hfz8_1 := blk_frozen BK282.out 1) | ((with_reducible refine gate_callee (f := 89) rfl ?_); refine goesM_ (some 4) rfl rfl Try.func89 (by kernel_rfl) rfl #[.agg #[.int .i64 a0_0, .slice A0_1 l0_1.length c0_1]] rfl ?_; (with_reducible refine (impl_EdgesOk.calls k a0_0 _ _ l0_1 true _ ?side1 ?side2 A2.out).mono ?_); (case side1 => exact Cz ((Kd.C_below HR0_1.out HB.out))); (case side2 => exact HC0_1.out); rintro e w9 ⟨rfl, hb⟩; refine ⟨_, rfl, ?_⟩; replace BK282 := Aside0.mk (blk_below (g := gb282) (o := .cells #[.int .i64 a0_0, .slice A0_1 l0_1.length c0_1] 31 (0, 0)) (Bz BK282) hb); replace HB := Aside0.mk (below_step (by exact Lz1 HB GE282) hb); (try clear hb); (try clear hb2); (try clear hk); (try clear hi); have hcz10_0 : w9.cell? ⟨gb282, 0, none⟩ = some (.int .i64 a0_0) := (blk_cell BK282.out 0).trans rfl; have hcz10_1 : w9.cell? ⟨gb282, 1, none⟩ = some (.slice A0_1 l0_1.length c0_1) := (blk_cell BK282.out 1).trans rfl; have hfz10_0 := blk_frozen BK282.out 0; have hfz10_1 := blk_frozen BK282.out 1) | (go_at_call 90; (with_reducible refine (slices_IsSortedFunc_Edge.calls k _ _ l0_1 true _ ?side1 ?side2 A4.out).mono ?_); (case side1 => exact Cz ((Kd.C_below HR0_1.out HB.out))); (case side2 => exact HC0_1.out); rintro e w11 ⟨rfl, hb⟩; replace BK282 := Aside0.mk (blk_below (g := gb282) (o := .cells #[.int .i64 a0_0, .slice A0_1 l0_1.length c0_1] 31 (0, 0)) (Bz BK282) hb); replace HB := Aside0.mk (below_step (by exact Lz1 HB GE282) hb); (try clear hb); (try clear hb2); (try clear hk); (try clear hi); have hcz12_0 : w11.cell? ⟨gb282, 0, none⟩ = some (.int .i64 a0_0) := (blk_cell BK282.out 0).trans rfl; have hcz12_1 : w11.cell? ⟨gb282, 1, none⟩ = some (.slice A0_1 l0_1.length c0_1) := (blk_cell BK282.out 1).trans rfl; have hfz12_0 := blk_frozen BK282.out 0; have hfz12_1 := blk_frozen BK282.out 1) | (go_at_call 91; (with_reducible refine (impl_connected.calls k a0_0 _ _ l0_1 t285 _ ?side1 ?side2 A6.out).mono ?_); (case side1 => exact Cz ((Kd.C_below HR0_1.out HB.out))); (case side2 => exact HC0_1.out); rintro e w13 ⟨rfl, hb⟩; replace BK282 := Aside0.mk (blk_below (g := gb282) (o := .cells #[.int .i64 a0_0, .slice A0_1 l0_1.length c0_1] 31 (0, 0)) (Bz BK282) hb); replace HB := Aside0.mk (below_step (by exact Lz1 HB GE282) hb); (try clear hb); (try clear hb2); (try clear hk); (try clear hi)))
   go_ret
   exact ⟨by first | rfl | (simp [errW_none, errW_some] <;> rfl) | (simp [*, errW_none, errW_some] <;> rfl), by exact Lz1 HB GE282⟩
  replace c5 := Bool.eq_false_iff.mpr c5
  subst c5
  have H1 : (some false) = some r := by rw [if_neg (show ¬ (false = true) by decide)] at H; exact H
  clear H
  have H := H1
  clear H1
  obtain rfl := Option.some.inj H
  go_enter Try.func50, Try.ntmps50
  go_wp2_with (first | ((with_reducible refine gate_dst (N := 1) rfl ?_); refine box_event ?hg (N := 1) ?hd (cs := #[.int .i64 a0_0, .slice A0_1 l0_1.length c0_1]) (t := 31) ?hr ?_; (case hd => rfl); (case hg => rfl); (case hr => first | (go_simp; done) | (go_simp; rfl)); intro gb282 hg w14 hbox hb; have BK282 := Aside0.mk (hbox); have GW282 := Aside0.mk ((by rw [hg]; exact (below_size (Lz HB)) : w.heap.size ≤ gb282)); have GE282 := Aside0.mk ((by rw [hg]; exact (below_size (Lz HB)) : w.heap.size ≤ gb282)); replace HB := Aside0.mk (below_step (Lz HB) hb); clear hb hbox hg; have hcz15_0 : w14.cell? ⟨gb282, 0, none⟩ = some (.int .i64 a0_0) := (blk_cell BK282.out 0).trans rfl; have hcz15_1 : w14.cell? ⟨gb282, 1, none⟩ = some (.slice A0_1 l0_1.length c0_1) := (blk_cell BK282.out 1).trans rfl; have hfz15_0 := blk_frozen BK282.out 0; have hfz15_1 := blk_frozen BK282.out 1) | ((with_reducible refine gate_callee (f := 89) rfl ?_); refine goesM_ (some 4) rfl rfl Try.func89 (by kernel_rfl) rfl #[.agg #[.int .i64 a0_0, .slice A0_1 l0_1.length c0_1]] rfl ?_; (with_reducible refine (impl_EdgesOk.calls k a0_0 _ _ l0_1 true _ ?side1 ?side2 A2.out).mono ?_); (case side1 => exact Cz ((Kd.C_below HR0_1.out HB.out))); (case side2 => exact HC0_1.out); rintro e w16 ⟨rfl, hb⟩; refine ⟨_, rfl, ?_⟩; replace BK282 := Aside0.mk (blk_below (g := gb282) (o := .cells #[.int .i64 a0_0, .slice A0_1 l0_1.length c0_1] 31 (0, 0)) (Bz BK282) hb); replace HB := Aside0.mk (below_step (by exact Lz1 HB GE282) hb); (try clear hb); (try clear hb2); (try clear hk); (try clear hi); have hcz17_0 : w16.cell? ⟨gb282, 0, none⟩ = some (.int .i64 a0_0) := (blk_cell BK282.out 0).trans rfl; have hcz17_1 : w16.cell? ⟨gb282, 1, none⟩ = some (.slice A0_1 l0_1.length c0_1) := (blk_cell BK282.out 1).trans rfl; have hfz17_0 := blk_frozen BK282.out 0; have hfz17_1 := blk_frozen BK282.out 1) | (go_at_call 90; (with_reducible refine (slices_IsSortedFunc_Edge.calls k _ _ l0_1 false _ ?side1 ?side2 A4.out).mono ?_); (case side1 => exact Cz ((Kd.C_below HR0_1.out HB.out))); (case side2 => exact HC0_1.out); rintro e w18 ⟨rfl, hb⟩; replace BK282 := Aside0.mk (blk_below (g := gb282) (o := .cells #[.int .i64 a0_0, .slice A0_1 l0_1.length c0_1] 31 (0, 0)) (Bz BK282) hb); replace HB := Aside0.mk (below_step (by exact Lz1 HB GE282) hb); (try clear hb); (try clear hb2); (try clear hk); (try clear hi)))
  go_ret
  exact ⟨by first | rfl | (simp [errW_none, errW_some] <;> rfl) | (simp [*, errW_none, errW_some] <;> rfl), by exact Lz1 HB GE282⟩
 replace c3 := Bool.eq_false_iff.mpr c3
 subst c3
 have H1 : (some false) = some r := by rw [if_neg (show ¬ (false = true) by decide)] at H; exact H
 clear H
 have H := H1
 clear H1
 obtain rfl := Option.some.inj H
 go_enter Try.func50, Try.ntmps50
 go_wp2_with (first | ((with_reducible refine gate_dst (N := 1) rfl ?_); refine box_event ?hg (N := 1) ?hd (cs := #[.int .i64 a0_0, .slice A0_1 l0_1.length c0_1]) (t := 31) ?hr ?_; (case hd => rfl); (case hg => rfl); (case hr => first | (go_simp; done) | (go_simp; rfl)); intro gb282 hg w19 hbox hb; have BK282 := Aside0.mk (hbox); have GW282 := Aside0.mk ((by rw [hg]; exact (below_size (Lz HB)) : w.heap.size ≤ gb282)); have GE282 := Aside0.mk ((by rw [hg]; exact (below_size (Lz HB)) : w.heap.size ≤ gb282)); replace HB := Aside0.mk (below_step (Lz HB) hb); clear hb hbox hg; have hcz20_0 : w19.cell? ⟨gb282, 0, none⟩ = some (.int .i64 a0_0) := (blk_cell BK282.out 0).trans rfl; have hcz20_1 : w19.cell? ⟨gb282, 1, none⟩ = some (.slice A0_1 l0_1.length c0_1) := (blk_cell BK282.out 1).trans rfl; have hfz20_0 := blk_frozen BK282.out 0; have hfz20_1 := blk_frozen BK282.out 1) | ((with_reducible refine gate_callee (f := 89) rfl ?_); refine goesM_ (some 4) rfl rfl Try.func89 (by kernel_rfl) rfl #[.agg #[.int .i64 a0_0, .slice A0_1 l0_1.length c0_1]] rfl ?_; (with_reducible refine (impl_EdgesOk.calls k a0_0 _ _ l0_1 false _ ?side1 ?side2 A2.out).mono ?_); (case side1 => exact Cz ((Kd.C_below HR0_1.out HB.out))); (case side2 => exact HC0_1.out); rintro e w21 ⟨rfl, hb⟩; refine ⟨_, rfl, ?_⟩; replace BK282 := Aside0.mk (blk_below (g := gb282) (o := .cells #[.int .i64 a0_0, .slice A0_1 l0_1.length c0_1] 31 (0, 0)) (Bz BK282) hb); replace HB := Aside0.mk (below_step (by exact Lz1 HB GE282) hb); (try clear hb); (try clear hb2); (try clear hk); (try clear hi)))
 go_ret
 exact ⟨by first | rfl | (simp [errW_none, errW_some] <;> rfl) | (simp [*, errW_none, errW_some] <;> rfl), by exact Lz1 HB GE282⟩
def impl_allWithin.l0 : Nat → Int → Int → List Int → Int → Int → Option (Bool)
 | 0, _, _, _, _, _ => none
 | k + 1, x1, x2, x9, x10, x11 => if x11 < x10 then (if 0 ≤ x11 then (if x11 < (x9.length : Int) then ((impl_within.f (rd x9 x11) x1 x2).bind fun t287 => (if t287 = true then (impl_allWithin.l0 k x1 x2 x9 x10 (wrap64 (x11 + 1))) else (some false))) else (none)) else (none)) else (some true)
def impl_allWithin.f (k : Nat) (l0 : List Int) (a1 : Int) (a2 : Int) : Option (Bool) := impl_allWithin.l0 k a1 a2 l0 (l0.length : Int) 0
set_option maxHeartbeats 8000000 in
set_option maxRecDepth 100000 in
theorem impl_allWithin.calls (k : Nat) (A0 : Option Addr) (c0 : Nat) (l0 : List Int) (a1 : Int) (a2 : Int) (r : Bool) (w : World) (hr0 : Kd.C (Kd.int .i64) w A0 l0.length l0) (hc0 : l0.length ≤ c0) (h : impl_allWithin.f k l0 a1 a2 = some r) :
  Calls Try.prog 80 #[.slice A0 l0.length c0, .int .i64 a1, .int .i64 a2] w fun e w' => e = .returned (.bool r) ∧ Drawn0 w w' := by
 have HR0 := Aside0.mk hr0
 have HC0 := Aside0.mk hc0
 clear hr0 hc0
 have H : (impl_allWithin.l0 k a1 a2 l0 (l0.length : Int) 0) = some r := h
 clear h
 have H' := Aside0.mk H
 clear H
 go_enter Try.func80, Try.ntmps80
 go_wp2
 go_loopg [11] k (fun kq v11 w' => ∃ (x11_1 : Int), v11 = .int .i64 x11_1 ∧ Aside0 (impl_allWithin.l0 kq a1 a2 l0 (l0.length : Int) x11_1 = some r) ∧ Aside0 (kq ≤ k) ∧ Drawn0 w w')
 case atStart => exact ⟨(0), eqA, H', ⟨Nat.le_refl _⟩, by repeat (first | exact Drawn0.refl _ | apply Drawn0.step)⟩
 case round =>
  clear H'
  obtain ⟨x11_1, rfl, HA, HK1, ⟨m1, rfl⟩⟩ := hrel
  cases gk with
  | zero => exact absurd HA.out (by simp [impl_allWithin.l0])
  | succ k1 =>
   have H := HA.out
   clear HA
   simp only [impl_allWithin.l0] at H
   by_cases c4 : x11_1 < (l0.length : Int)
   ·rw [if_pos c4] at H
    have c4b0 : decide (x11_1 < (l0.length : Int)) = true := decide_eq_true c4
    clear c4
    by_cases c5 : 0 ≤ x11_1
    ·rw [if_pos c5] at H
     have c5b0 : decide (0 ≤ x11_1) = true := decide_eq_true c5
     clear c5
     by_cases c6 : x11_1 < (l0.length : Int)
     ·rw [if_pos c6] at H
      have c6b0 : decide (x11_1 < (l0.length : Int)) = true := decide_eq_true c6
      clear c6
      replace H := Option.bind_eq_some_iff.mp H
      obtain ⟨t287, A70, H⟩ := H
      replace H : (if t287 = true then (impl_allWithin.l0 k1 a1 a2 l0 (l0.length : Int) (wrap64 (x11_1 + 1))) else (some false)) = some r := H
      have A7 := Aside0.mk A70
      clear A70
      by_cases c8 : t287 = true
      ·subst c8
       have H1 : (impl_allWithin.l0 k1 a1 a2 l0 (l0.length : Int) (wrap64 (x11_1 + 1))) = some r := by rw [if_pos rfl] at H; exact H
       clear H
       have H := H1
       clear H1
       have H' := Aside0.mk H
       clear H
       have p286 : 0 ≤ (x11_1 : Int) := ofA
       have q286 : x11_1 < (l0.length : Int) := ofA
       obtain ⟨ad286, e286, hx286_0⟩ := Kd.at_int HR0.out x11_1 p286 q286
       cases e286
       replace p286 := eq_true p286
       replace q286 := eq_true q286
       go_wp2_with (first | ((with_reducible refine gate_callee (f := 81) rfl ?_); refine goesM_ (some 18) rfl rfl Try.func81 (by kernel_rfl) rfl #[.int .i64 (rd l0 x11_1), .int .i64 a1, .int .i64 a2] rfl ?_; (with_reducible refine (impl_within.calls (rd l0 x11_1) a1 a2 true _ A7.out).mono ?_); rintro e w' ⟨rfl, ⟨nd, rfl⟩⟩; refine ⟨_, rfl, ?_⟩))
       go_roundg k1
       case measure => have := HK1.out; omega
       case rel => exact ⟨(wrap64 (x11_1 + 1)), eqA, H', ⟨by have := HK1.out; omega⟩, by repeat (first | exact Drawn0.refl _ | apply Drawn0.step)⟩
      replace c8 := Bool.eq_false_iff.mpr c8
      subst c8
      have H1 : (some false) = some r := by rw [if_neg (show ¬ (false = true) by decide)] at H; exact H
      clear H
      have H := H1
      clear H1
      obtain rfl := Option.some.inj H
      have p286 : 0 ≤ (x11_1 : Int) := ofA
      have q286 : x11_1 < (l0.length : Int) := ofA
      obtain ⟨ad286, e286, hx286_0⟩ := Kd.at_int HR0.out x11_1 p286 q286
      cases e286
      replace p286 := eq_true p286
      replace q286 := eq_true q286
      go_wp2_with (first | ((with_reducible refine gate_callee (f := 81) rfl ?_); refine goesM_ (some 18) rfl rfl Try.func81 (by kernel_rfl) rfl #[.int .i64 (rd l0 x11_1), .int .i64 a1, .int .i64 a2] rfl ?_; (with_reducible refine (impl_within.calls (rd l0 x11_1) a1 a2 false _ A7.out).mono ?_); rintro e w' ⟨rfl, ⟨nd, rfl⟩⟩; refine ⟨_, rfl, ?_⟩))
      go_ret
      exact ⟨eqA, by repeat (first | exact Drawn0.refl _ | apply Drawn0.step)⟩
     rw [if_neg c6] at H
     exact absurd H (by simp)
    rw [if_neg c5] at H
    exact absurd H (by simp)
   rw [if_neg c4] at H
   have c4b0 : decide (x11_1 < (l0.length : Int)) = false := decide_eq_false c4
   clear c4
   obtain rfl := Option.some.inj H
   go_wp2
   go_ret
   exact ⟨eqA, by repeat (first | exact Drawn0.refl _ | apply Drawn0.step)⟩
def impl_DivisorOk.f (k : Nat) (a0_0 : Int) (l0_1 : List (S67)) (l1 : List Int) : Option (Bool) := (impl_GraphOk.f k a0_0 l0_1).bind fun t289 => (if t289 = true then (if (l1.length : Int) = a0_0 then ((impl_allWithin.f k l1 (-60) 60).bind fun t290 => (some t290)) else (some false)) else (some false))
set_option maxHeartbeats 8000000 in
set_option maxRecDepth 100000 in
theorem impl_DivisorOk.calls (k : Nat) (a0_0 : Int) (A0_1 : Option Addr) (c0_1 : Nat) (l0_1 : List (S67)) (A1 : Option Addr) (c1 : Nat) (l1 : List Int) (r : Bool) (w : World) (hr0_1 : Kd.C k67 w A0_1 l0_1.length l0_1) (hc0_1 : l0_1.length ≤ c0_1) (hr1 : Kd.C (Kd.int .i64) w A1 l1.length l1) (hc1 : l1.length ≤ c1) (h : impl_DivisorOk.f k a0_0 l0_1 l1 = some r) :
  Calls Try.prog 71 #[.agg #[.int .i64 a0_0, .slice A0_1 l0_1.length c0_1], .slice A1 l1.length c1] w fun e w' => e = .returned (.bool r) ∧ Below w.heap.size w w' := by
 have hu31 := Try.underlying31
 have HR0_1 := Aside0.mk hr0_1
 have HC0_1 := Aside0.mk hc0_1
 clear hr0_1 hc0_1
 have HR1 := Aside0.mk hr1
 have HC1 := Aside0.mk hc1
 clear hr1 hc1
 have HB := Aside0.mk (Below.refl w.heap.size w)
 have H : ((impl_GraphOk.f k a0_0 l0_1).bind fun t289 => (if t289 = true then (if (l1.length : Int) = a0_0 then ((impl_allWithin.f k l1 (-60) 60).bind fun t290 => (some t290)) else (some false)) else (some false))) = some r := h
 clear h
 replace H := Option.bind_eq_some_iff.mp H
 obtain ⟨t289, A30, H⟩ := H
 replace H : (if t289 = true then (if (l1.length : Int) = a0_0 then ((impl_allWithin.f k l1 (-60) 60).bind fun t290 => (some t290)) else (some false)) else (some false)) = some r := H
 have A3 := Aside0.mk A30
 clear A30
 by_cases c4 : t289 = true
 ·subst c4
  have H1 : (if (l1.length : Int) = a0_0 then ((impl_allWithin.f k l1 (-60) 60).bind fun t290 => (some t290)) else (some false)) = some r := by rw [if_pos rfl] at H; exact H
  clear H
  have H := H1
  clear H1
  by_cases c5 : (l1.length : Int) = a0_0
  ·rw [if_pos c5] at H
   have c5b0 : ((l1.length : Int) == a0_0) = true := beq_iff_eq.mpr c5
   have c5b1 : ((l1.length : Int) != a0_0) = false := bne_eq_false_iff_eq.mpr c5
   clear c5
   replace H := Option.bind_eq_some_iff.mp H
   obtain ⟨t290, A60, H⟩ := H
   replace H : (some t290) = some r := H
   have A6 := Aside0.mk A60
   clear A60
   obtain rfl := Option.some.inj H
   go_enter Try.func71, Try.ntmps71
   go_wp2_with (first | ((with_reducible refine gate_dst (N := 2) rfl ?_); (try (refine gate_guard (by rfl) ?_; dsimp only)); refine box_event ?hg (N := 2) ?hd (cs := #[.int .i64 a0_0, .slice A0_1 l0_1.length c0_1]) (t := 31) ?hr ?_; (case hd => rfl); (case hg => rfl); (case hr => first | (go_simp; done) | (go_simp; rfl)); intro gb288 hg w7 hbox hb; have BK288 := Aside0.mk (hbox); have GW288 := Aside0.mk ((by rw [hg]; exact (below_size (Lz HB)) : w.heap.size ≤ gb288)); have GE288 := Aside0.mk ((by rw [hg]; exact (below_size (Lz HB)) : w.heap.size ≤ gb288)); replace HB := Aside0.mk (below_step (Lz HB) hb); clear hb hbox hg; have hcz8_0 : w7.cell? ⟨gb288, 0, none⟩ = some (.int .i64 a0_0) := (blk_cell BK288.out 0).trans rfl; have hcz8_1 : w7.cell? ⟨gb288, 1, none⟩ = some (.slice A0_1 l0_1.length c0_1) := (blk_cell BK288.out 1).trans rfl; have hfz8_0 := blk_frozen BK288.out 0; have hfz8_1 := blk_frozen BK288.out 1) | ((with_reducible refine gate_callee (f := 50) rfl ?_); refine goesM_ (some 6) rfl rfl Try.func50 (by kernel_rfl) rfl #[.agg #[.int .i64 a0_0, .slice A0_1 l0_1.length c0_1]] rfl ?_; (with_reducible refine (impl_GraphOk.calls k a0_0 _ _ l0_1 true _ ?side1 ?side2 A3.out).mono ?_); (case side1 => exact Cz ((Kd.C_below HR0_1.out HB.out))); (case side2 => exact HC0_1.out); rintro e w9 ⟨rfl, hb⟩; refine ⟨_, rfl, ?_⟩; replace BK288 := Aside0.mk (blk_below (g := gb288) (o := .cells #[.int .i64 a0_0, .slice A0_1 l0_1.length c0_1] 31 (0, 0)) (Bz BK288) hb); replace HB := Aside0.mk (below_step (by exact Lz1 HB GE288) hb); (try clear hb); (try clear hb2); (try clear hk); (try clear hi); have hcz10_0 : w9.cell? ⟨gb288, 0, none⟩ = some (.int .i64 a0_0) := (blk_cell BK288.out 0).trans rfl; have hcz10_1 : w9.cell? ⟨gb288, 1, none⟩ = some (.slice A0_1 l0_1.length c0_1) := (blk_cell BK288.out 1).trans rfl; have hfz10_0 := blk_frozen BK288.out 0; have hfz10_1 := blk_frozen BK288.out 1) | (go_at_call 80; (with_reducible refine (impl_allWithin.calls k _ _ l1 (-60) 60 t290 _ ?side1 ?side2 A6.out).mono ?_); (case side1 => exact Cz ((Kd.C_below HR1.out HB.out))); (case side2 => exact HC1.out); rintro e w' ⟨rfl, ⟨nd, rfl⟩⟩))
   go_ret
   exact ⟨by first | rfl | (simp [errW_none, errW_some] <;> rfl) | (simp [*, errW_none, errW_some] <;> rfl), by exact Lz1 HB GE288⟩
  rw [if_neg c5] at H
  have c5b0 : ((l1.length : Int) == a0_0) = false := beq_eq_false_iff_ne.mpr c5
  have c5b1 : ((l1.length : Int) != a0_0) = true := bne_iff_ne.mpr c5
  obtain rfl := Option.some.inj H
  go_enter Try.func71, Try.ntmps71
  go_wp2_with (first | ((with_reducible refine gate_dst (N := 2) rfl ?_); (try (refine gate_guard (by rfl) ?_; dsimp only)); refine box_event ?hg (N := 2) ?hd (cs := #[.int .i64 a0_0, .slice A0_1 l0_1.length c0_1]) (t := 31) ?hr ?_; (case hd => rfl); (case hg => rfl); (case hr => first | (go_simp; done) | (go_simp; rfl)); intro gb288 hg w11 hbox hb; have BK288 := Aside0.mk (hbox); have GW288 := Aside0.mk ((by rw [hg]; exact (below_size (Lz HB)) : w.heap.size ≤ gb288)); have GE288 := Aside0.mk ((by rw [hg]; exact (below_size (Lz HB)) : w.heap.size ≤ gb288)); replace HB := Aside0.mk (below_step (Lz HB) hb); clear hb hbox hg; have hcz12_0 : w11.cell? ⟨gb288, 0, none⟩ = some (.int .i64 a0_0) := (blk_cell BK288.out 0).trans rfl; have hcz12_1 : w11.cell? ⟨gb288, 1, none⟩ = some (.slice A0_1 l0_1.length c0_1) := (blk_cell BK288.out 1).trans rfl; have hfz12_0 := blk_frozen BK288.out 0; have hfz12_1 := blk_frozen BK288.out 1) | ((with_reducible refine gate_callee (f := 50) rfl ?_); refine goesM_ (some 6) rfl rfl Try.func50 (by kernel_rfl) rfl #[.agg #[.int .i64 a0_0, .slice A0_1 l0_1.length c0_1]] rfl ?_; (with_reducible refine (impl_GraphOk.calls k a0_0 _ _ l0_1 true _ ?side1 ?side2 A3.out).mono ?_); (case side1 => exact Cz ((Kd.C_below HR0_1.out HB.out))); (case side2 => exact HC0_1.out); rintro e w13 ⟨rfl, hb⟩; refine ⟨_, rfl, ?_⟩; replace BK288 := Aside0.mk (blk_below (g := gb288) (o := .cells #[.int .i64 a0_0, .slice A0_1 l0_1.length c0_1] 31 (0, 0)) (Bz BK288) hb); replace HB := Aside0.mk (below_step (by exact Lz1 HB GE288) hb); (try clear hb); (try clear hb2); (try clear hk); (try clear hi); have hcz14_0 : w13.cell? ⟨gb288, 0, none⟩ = some (.int .i64 a0_0) := (blk_cell BK288.out 0).trans rfl; have hcz14_1 : w13.cell? ⟨gb288, 1, none⟩ = some (.slice A0_1 l0_1.length c0_1) := (blk_cell BK288.out 1).trans rfl; have hfz14_0 := blk_frozen BK288.out 0; have hfz14_1 := blk_frozen BK288.out 1))
  go_ret
  exact ⟨by first | rfl | (simp [errW_none, errW_some] <;> rfl) | (simp [*, errW_none, errW_some] <;> rfl), by exact Lz1 HB GE288⟩
 replace c4 := Bool.eq_false_iff.mpr c4
 subst c4
 have H1 : (some false) = some r := by rw [if_neg (show ¬ (false = true) by decide)] at H; exact H
 clear H
 have H := H1
 clear H1
 obtain rfl := Option.some.inj H
 go_enter Try.func71, Try.ntmps71
 go_wp2_with (first | ((with_reducible refine gate_dst (N := 2) rfl ?_); (try (refine gate_guard (by rfl) ?_; dsimp only)); refine box_event ?hg (N := 2) ?hd (cs := #[.int .i64 a0_0, .slice A0_1 l0_1.length c0_1]) (t := 31) ?hr ?_; (case hd => rfl); (case hg => rfl); (case hr => first | (go_simp; done) | (go_simp; rfl)); intro gb288 hg w15 hbox hb; have BK288 := Aside0.mk (hbox); have GW288 := Aside0.mk ((by rw [hg]; exact (below_size (Lz HB)) : w.heap.size ≤ gb288)); have GE288 := Aside0.mk ((by rw [hg]; exact (below_size (Lz HB)) : w.heap.size ≤ gb288)); replace HB := Aside0.mk (below_step (Lz HB) hb); clear hb hbox hg; have hcz16_0 : w15.cell? ⟨gb288, 0, none⟩ = some (.int .i64 a0_0) := (blk_cell BK288.out 0).trans rfl; have hcz16_1 : w15.cell? ⟨gb288, 1, none⟩ = some (.slice A0_1 l0_1.length c0_1) := (blk_cell BK288.out 1).trans rfl; have hfz16_0 := blk_frozen BK288.out 0; have hfz16_1 := blk_frozen BK288.out 1) | ((with_reducible refine gate_callee (f := 50) rfl ?_); refine goesM_ (some 6) rfl rfl Try.func50 (by kernel_rfl) rfl #[.agg #[.int .i64 a0_0, .slice A0_1 l0_1.length c0_1]] rfl ?_; (with_reducible refine (impl_GraphOk.calls k a0_0 _ _ l0_1 false _ ?side1 ?side2 A3.out).mono ?_); (case side1 => exact Cz ((Kd.C_below HR0_1.out HB.out))); (case side2 => exact HC0_1.out); rintro e w17 ⟨rfl, hb⟩; refine ⟨_, rfl, ?_⟩; replace BK288 := Aside0.mk (blk_below (g := gb288) (o := .cells #[.int .i64 a0_0, .slice A0_1 l0_1.length c0_1] 31 (0, 0)) (Bz BK288) hb); replace HB := Aside0.mk (below_step (by exact Lz1 HB GE288) hb); (try clear hb); (try clear hb2); (try clear hk); (try clear hi)))
 go_ret
 exact ⟨by first | rfl | (simp [errW_none, errW_some] <;> rfl) | (simp [*, errW_none, errW_some] <;> rfl), by exact Lz1 HB GE288⟩
def impl_isVertex.f (k : Nat) (a0_0 : Int) (l0_1 : List (S67)) (a1 : Int) : Option (Bool) := (impl_GraphOk.f k a0_0 l0_1).bind fun t501 => (if t501 = true then ((impl_within.f a1 0 (wrap64 (a0_0 - 1))).bind fun t502 => (some t502)) else (some false))
set_option maxHeartbeats 8000000 in
set_option maxRecDepth 100000 in
theorem impl_isVertex.calls (k : Nat) (a0_0 : Int) (A0_1 : Option Addr) (c0_1 : Nat) (l0_1 : List (S67)) (a1 : Int) (r : Bool) (w : World) (hr0_1 : Kd.C k67 w A0_1 l0_1.length l0_1) (hc0_1 : l0_1.length ≤ c0_1) (h : impl_isVertex.f k a0_0 l0_1 a1 = some r) :
  Calls Try.prog 72 #[.agg #[.int .i64 a0_0, .slice A0_1 l0_1.length c0_1], .int .i64 a1] w fun e w' => e = .returned (.bool r) ∧ Below w.heap.size w w' := by
 have hu31 := Try.underlying31
 have HR0_1 := Aside0.mk hr0_1
 have HC0_1 := Aside0.mk hc0_1
 clear hr0_1 hc0_1
 have HB := Aside0.mk (Below.refl w.heap.size w)
 have H : ((impl_GraphOk.f k a0_0 l0_1).bind fun t501 => (if t501 = true then ((impl_within.f a1 0 (wrap64 (a0_0 - 1))).bind fun t502 => (some t502)) else (some false))) = some r := h
 clear h
 replace H := Option.bind_eq_some_iff.mp H
 obtain ⟨t501, A30, H⟩ := H
 replace H : (if t501 = true then ((impl_within.f a1 0 (wrap64 (a0_0 - 1))).bind fun t502 => (some t502)) else (some false)) = some r := H
 have A3 := Aside0.mk A30
 clear A30
 by_cases c4 : t501 = true
 ·subst c4
  have H1 : ((impl_within.f a1 0 (wrap64 (a0_0 - 1))).bind fun t502 => (some t502)) = some r := by rw [if_pos rfl] at H; exact H
  clear H
  have H := H1
  clear H1
  replace H := Option.bind_eq_some_iff.mp H
  obtain ⟨t502, A50, H⟩ := H
  replace H : (some t502) = some r := H
  have A5 := Aside0.mk A50
  clear A50
  obtain rfl := Option.some.inj H
  go_enter Try.func72, Try.ntmps72
  go_wp2_with (first | ((with_reducible refine gate_dst (N := 2) rfl ?_); refine box_event ?hg (N := 2) ?hd (cs := #[.int .i64 a0_0, .slice A0_1 l0_1.length c0_1]) (t := 31) ?hr ?_; (case hd => rfl); (case hg => rfl); (case hr => first | (go_simp; done) | (go_simp; rfl)); intro gb500 hg w6 hbox hb; have BK500 := Aside0.mk (hbox); have GW500 := Aside0.mk ((by rw [hg]; exact (below_size (Lz HB)) : w.heap.size ≤ gb500)); have GE500 := Aside0.mk ((by rw [hg]; exact (below_size (Lz HB)) : w.heap.size ≤ gb500)); replace HB := Aside0.mk (below_step (Lz HB) hb); clear hb hbox hg; have hcz7_0 : w6.cell? ⟨gb500, 0, none⟩ = some (.int .i64 a0_0) := (blk_cell BK500.out 0).trans rfl; have hcz7_1 : w6.cell? ⟨gb500, 1, none⟩ = some (.slice A0_1 l0_1.length c0_1) := (blk_cell BK500.out 1).trans rfl; have hfz7_0 := blk_frozen BK500.out 0; have hfz7_1 := blk_frozen BK500.out 1) | ((with_reducible refine gate_callee (f := 50) rfl ?_); refine goesM_ (some 6) rfl rfl Try.func50 (by kernel_rfl) rfl #[.agg #[.int .i64 a0_0, .slice A0_1 l0_1.length c0_1]] rfl ?_; (with_reducible refine (impl_GraphOk.calls k a0_0 _ _ l0_1 true _ ?side1 ?side2 A3.out).mono ?_); (case side1 => exact Cz ((Kd.C_below HR0_1.out HB.out))); (case side2 => exact HC0_1.out); rintro e w8 ⟨rfl, hb⟩; refine ⟨_, rfl, ?_⟩; replace BK500 := Aside0.mk (blk_below (g := gb500) (o := .cells #[.int .i64 a0_0, .slice A0_1 l0_1.length c0_1] 31 (0, 0)) (Bz BK500) hb); replace HB := Aside0.mk (below_step (by exact Lz1 HB GE500) hb); (try clear hb); (try clear hb2); (try clear hk); (try clear hi); have hcz9_0 : w8.cell? ⟨gb500, 0, none⟩ = some (.int .i64 a0_0) := (blk_cell BK500.out 0).trans rfl; have hcz9_1 : w8.cell? ⟨gb500, 1, none⟩ = some (.slice A0_1 l0_1.length c0_1) := (blk_cell BK500.out 1).trans rfl; have hfz9_0 := blk_frozen BK500.out 0; have hfz9_1 := blk_frozen BK500.out 1) | (go_at_call 81; (with_reducible refine (impl_within.calls a1 0 (wrap64 (a0_0 - 1)) t502 _ A5.out).mono ?_); rintro e w' ⟨rfl, ⟨nd, rfl⟩⟩))
  go_ret
  exact ⟨by first | rfl | (simp [errW_none, errW_some] <;> rfl) | (simp [*, errW_none, errW_some] <;> rfl), by exact Lz1 HB GE500⟩
 replace c4 := Bool.eq_false_iff.mpr c4
 subst c4
 have H1 : (some false) = some r := by rw [if_neg (show ¬ (false = true) by decide)] at H; exact H
 clear H
 have H := H1
 clear H1
 obtain rfl := Option.some.inj H
 go_enter Try.func72, Try.ntmps72
 go_wp2_with (first | ((with_reducible refine gate_dst (N := 2) rfl ?_); refine box_event ?hg (N := 2) ?hd (cs := #[.int .i64 a0_0, .slice A0_1 l0_1.length c0_1]) (t := 31) ?hr ?_; (case hd => rfl); (case hg => rfl); (case hr => first | (go_simp; done) | (go_simp; rfl)); intro gb500 hg w10 hbox hb; have BK500 := Aside0.mk (hbox); have GW500 := Aside0.mk ((by rw [hg]; exact (below_size (Lz HB)) : w.heap.size ≤ gb500)); have GE500 := Aside0.mk ((by rw [hg]; exact (below_size (Lz HB)) : w.heap.size ≤ gb500)); replace HB := Aside0.mk (below_step (Lz HB) hb); clear hb hbox hg; have hcz11_0 : w10.cell? ⟨gb500, 0, none⟩ = some (.int .i64 a0_0) := (blk_cell BK500.out 0).trans rfl; have hcz11_1 : w10.cell? ⟨gb500, 1, none⟩ = some (.slice A0_1 l0_1.length c0_1) := (blk_cell BK500.out 1).trans rfl; have hfz11_0 := blk_frozen BK500.out 0; have hfz11_1 := blk_frozen BK500.out 1) | ((with_reducible refine gate_callee (f := 50) rfl ?_); refine goesM_ (some 6) rfl rfl Try.func50 (by kernel_rfl) rfl #[.agg #[.int .i64 a0_0, .slice A0_1 l0_1.length c0_1]] rfl ?_; (with_reducible refine (impl_GraphOk.calls k a0_0 _ _ l0_1 false _ ?side1 ?side2 A3.out).mono ?_); (case side1 => exact Cz ((Kd.C_below HR0_1.out HB.out))); (case side2 => exact HC0_1.out); rintro e w12 ⟨rfl, hb⟩; refine ⟨_, rfl, ?_⟩; replace BK500 := Aside0.mk (blk_below (g := gb500) (o := .cells #[.int .i64 a0_0, .slice A0_1 l0_1.length c0_1] 31 (0, 0)) (Bz BK500) hb); replace HB := Aside0.mk (below_step (by exact Lz1 HB GE500) hb); (try clear hb); (try clear hb2); (try clear hk); (try clear hi)))
 go_ret
 exact ⟨by first | rfl | (simp [errW_none, errW_some] <;> rfl) | (simp [*, errW_none, errW_some] <;> rfl), by exact Lz1 HB GE500⟩
def impl_ReducedOf.f (k : Nat) (a0_0 : Int) (l0_1 : List (S67)) (l1 : List Int) (a2 : Int) : Option (List Int × Bool) := (impl_DivisorOk.f k a0_0 l0_1 l1).bind fun t504 => (if t504 = true then ((impl_isVertex.f k a0_0 l0_1 a2).bind fun t505 => (if t505 = true then ((impl_reduce.f k a0_0 l0_1 l1 a2).bind fun bt506 => (some (bt506.1, true))) else (some (([] : List Int), false)))) else (some (([] : List Int), false)))
set_option maxHeartbeats 8000000 in
set_option maxRecDepth 100000 in
theorem impl_ReducedOf.calls (k : Nat) (a0_0 : Int) (A0_1 : Option Addr) (c0_1 : Nat) (l0_1 : List (S67)) (A1 : Option Addr) (c1 : Nat) (l1 : List Int) (a2 : Int) (r1 : List Int) (r2 : Bool) (w : World) (hr0_1 : Kd.C k67 w A0_1 l0_1.length l0_1) (hc0_1 : l0_1.length ≤ c0_1) (hr1 : Kd.C (Kd.int .i64) w A1 l1.length l1) (hc1 : l1.length ≤ c1) (h : impl_ReducedOf.f k a0_0 l0_1 l1 a2 = some (r1, r2)) :
  Calls Try.prog 25 #[.agg #[.int .i64 a0_0, .slice A0_1 l0_1.length c0_1], .slice A1 l1.length c1, .int .i64 a2] w fun e w' => ∃ v0_ : Value, e = .returned (.tuple #[v0_, .bool r2]) ∧ Kd.R (Kd.int .i64) 3 w' w.heap.size (fun _ => True) v0_ r1 ∧ Below w.heap.size w w' := by
 have hu31 := Try.underlying31
 have HR0_1 := Aside0.mk hr0_1
 have HC0_1 := Aside0.mk hc0_1
 clear hr0_1 hc0_1
 have HR1 := Aside0.mk hr1
 have HC1 := Aside0.mk hc1
 clear hr1 hc1
 have HB := Aside0.mk (Below.refl w.heap.size w)
 have H : ((impl_DivisorOk.f k a0_0 l0_1 l1).bind fun t504 => (if t504 = true then ((impl_isVertex.f k a0_0 l0_1 a2).bind fun t505 => (if t505 = true then ((impl_reduce.f k a0_0 l0_1 l1 a2).bind fun bt506 => (some (bt506.1, true))) else (some (([] : List Int), false)))) else (some (([] : List Int), false)))) = some (r1, r2) := h
 clear h
 replace H := Option.bind_eq_some_iff.mp H
 obtain ⟨t504, A40, H⟩ := H
 replace H : (if t504 = true then ((impl_isVertex.f k a0_0 l0_1 a2).bind fun t505 => (if t505 = true then ((impl_reduce.f k a0_0 l0_1 l1 a2).bind fun bt506 => (some (bt506.1, true))) else (some (([] : List Int), false)))) else (some (([] : List Int), false))) = some (r1, r2) := H
 have A4 := Aside0.mk A40
 clear A40
 by_cases c5 : t504 = true
 ·subst c5
  have H1 : ((impl_isVertex.f k a0_0 l0_1 a2).bind fun t505 => (if t505 = true then ((impl_reduce.f k a0_0 l0_1 l1 a2).bind fun bt506 => (some (bt506.1, true))) else (some (([] : List Int), false)))) = some (r1, r2) := by rw [if_pos rfl] at H; exact H
  clear H
  have H := H1
  clear H1
  replace H := Option.bind_eq_some_iff.mp H
  obtain ⟨t505, A60, H⟩ := H
  replace H : (if t505 = true then ((impl_reduce.f k a0_0 l0_1 l1 a2).bind fun bt506 => (some (bt506.1, true))) else (some (([] : List Int), false))) = some (r1, r2) := H
  have A6 := Aside0.mk A60
  clear A60
  by_cases c7 : t505 = true
  ·subst c7
   have H1 : ((impl_reduce.f k a0_0 l0_1 l1 a2).bind fun bt506 => (some (bt506.1, true))) = some (r1, r2) := by rw [if_pos rfl] at H; exact H
   clear H
   have H := H1
   clear H1
   replace H := Option.bind_eq_some_iff.mp H
   obtain ⟨⟨t506, t509⟩, A80, H⟩ := H
   replace H : (some (t506, true)) = some (r1, r2) := H
   have A8 := Aside0.mk A80
   clear A80
   simp only [Option.some.injEq, Prod.mk.injEq] at H
   obtain ⟨rfl, rfl⟩ := H
   go_enter Try.func25, Try.ntmps25
   go_wp2_with (first | ((with_reducible refine gate_dst (N := 3) rfl ?_); refine box_event ?hg (N := 3) ?hd (cs := #[.int .i64 a0_0, .slice A0_1 l0_1.length c0_1]) (t := 31) ?hr ?_; (case hd => rfl); (case hg => rfl); (case hr => first | (go_simp; done) | (go_simp; rfl)); intro gb503 hg w9 hbox hb; have BK503 := Aside0.mk (hbox); have GW503 := Aside0.mk ((by rw [hg]; exact (below_size (Lz HB)) : w.heap.size ≤ gb503)); have GE503 := Aside0.mk ((by rw [hg]; exact (below_size (Lz HB)) : w.heap.size ≤ gb503)); replace HB := Aside0.mk (below_step (Lz HB) hb); clear hb hbox hg; have hcz10_0 : w9.cell? ⟨gb503, 0, none⟩ = some (.int .i64 a0_0) := (blk_cell BK503.out 0).trans rfl; have hcz10_1 : w9.cell? ⟨gb503, 1, none⟩ = some (.slice A0_1 l0_1.length c0_1) := (blk_cell BK503.out 1).trans rfl; have hfz10_0 := blk_frozen BK503.out 0; have hfz10_1 := blk_frozen BK503.out 1) | ((with_reducible refine gate_callee (f := 71) rfl ?_); refine goesM_ (some 12) rfl rfl Try.func71 (by kernel_rfl) rfl #[.agg #[.int .i64 a0_0, .slice A0_1 l0_1.length c0_1], .slice A1 l1.length c1] rfl ?_; (with_reducible refine (impl_DivisorOk.calls k a0_0 _ _ l0_1 _ _ l1 true _ ?side1 ?side2 ?side3 ?side4 A4.out).mono ?_); (case side1 => exact Cz ((Kd.C_below HR0_1.out HB.out))); (case side2 => exact HC0_1.out); (case side3 => exact Cz ((Kd.C_below HR1.out HB.out))); (case side4 => exact HC1.out); rintro e w11 ⟨rfl, hb⟩; refine ⟨_, rfl, ?_⟩; replace BK503 := Aside0.mk (blk_below (g := gb503) (o := .cells #[.int .i64 a0_0, .slice A0_1 l0_1.length c0_1] 31 (0, 0)) (Bz BK503) hb); replace HB := Aside0.mk (below_step (by exact Lz1 HB GE503) hb); (try clear hb); (try clear hb2); (try clear hk); (try clear hi); have hcz12_0 : w11.cell? ⟨gb503, 0, none⟩ = some (.int .i64 a0_0) := (blk_cell BK503.out 0).trans rfl; have hcz12_1 : w11.cell? ⟨gb503, 1, none⟩ = some (.slice A0_1 l0_1.length c0_1) := (blk_cell BK503.out 1).trans rfl; have hfz12_0 := blk_frozen BK503.out 0; have hfz12_1 := blk_frozen BK503.out 1) | (go_at_call 72; (with_reducible refine (impl_isVertex.calls k a0_0 _ _ l0_1 a2 true _ ?side1 ?side2 A6.out).mono ?_); (case side1 => exact Cz ((Kd.C_below HR0_1.out HB.out))); (case side2 => exact HC0_1.out); rintro e w13 ⟨rfl, hb⟩; replace BK503 := Aside0.mk (blk_below (g := gb503) (o := .cells #[.int .i64 a0_0, .slice A0_1 l0_1.length c0_1] 31 (0, 0)) (Bz BK503) hb); replace HB := Aside0.mk (below_step (by exact Lz1 HB GE503) hb); (try clear hb); (try clear hb2); (try clear hk); (try clear hi); have hcz14_0 : w13.cell? ⟨gb503, 0, none⟩ = some (.int .i64 a0_0) := (blk_cell BK503.out 0).trans rfl; have hcz14_1 : w13.cell? ⟨gb503, 1, none⟩ = some (.slice A0_1 l0_1.length c0_1) := (blk_cell BK503.out 1).trans rfl; have hfz14_0 := blk_frozen BK503.out 0; have hfz14_1 := blk_frozen BK503.out 1) | ((with_reducible refine gate_callee (f := 60) rfl ?_); refine goesM_ (some 24) rfl rfl Try.func60 (by kernel_rfl) rfl #[.agg #[.int .i64 a0_0, .slice A0_1 l0_1.length c0_1], .slice A1 l1.length c1, .int .i64 a2] rfl ?_; (with_reducible refine (impl_reduce.calls k a0_0 _ _ l0_1 _ _ l1 a2 t506 t509 _ ?side1 ?side2 ?side3 ?side4 A8.out).mono ?_); (case side1 => exact Cz ((Kd.C_below HR0_1.out HB.out))); (case side2 => exact HC0_1.out); (case side3 => exact Cz ((Kd.C_below HR1.out HB.out))); (case side4 => exact HC1.out); rintro e w15 ⟨v507, v510, rfl, ho0, ho1, hb⟩; refine ⟨_, rfl, ?_⟩; have HO508 := Aside0.mk (Kd.R_lower ho0 (below_size (by exact Lz1 HB GE503))); have HO511 := Aside0.mk (Kd.R_lower ho1 (below_size (by exact Lz1 HB GE503))); replace BK503 := Aside0.mk (blk_below (g := gb503) (o := .cells #[.int .i64 a0_0, .slice A0_1 l0_1.length c0_1] 31 (0, 0)) (Bz BK503) hb); replace HB := Aside0.mk (below_step (by exact Lz1 HB GE503) hb); (try clear hb); (try clear ho0); (try clear ho1)))
   go_ret2
   exact ⟨_, by first | rfl | (simp [errW_none, errW_some] <;> rfl) | (simp [*, errW_none, errW_some] <;> rfl), by (with_reducible repeat (first | apply Kd.R_alloc | apply Kd.R_drewN | apply Kd.R_drew)); exact Kd.R_mono HO508.out (fun _ hk => trivial), by exact Lz1 HB GE503⟩
  replace c7 := Bool.eq_false_iff.mpr c7
  subst c7
  have H1 : (some (([] : List Int), false)) = some (r1, r2) := by rw [if_neg (show ¬ (false = true) by decide)] at H; exact H
  clear H
  have H := H1
  clear H1
  simp only [Option.some.injEq, Prod.mk.injEq] at H
  obtain ⟨rfl, rfl⟩ := H
  go_enter Try.func25, Try.ntmps25
  go_wp2_with (first | ((with_reducible refine gate_dst (N := 3) rfl ?_); refine box_event ?hg (N := 3) ?hd (cs := #[.int .i64 a0_0, .slice A0_1 l0_1.length c0_1]) (t := 31) ?hr ?_; (case hd => rfl); (case hg => rfl); (case hr => first | (go_simp; done) | (go_simp; rfl)); intro gb503 hg w16 hbox hb; have BK503 := Aside0.mk (hbox); have GW503 := Aside0.mk ((by rw [hg]; exact (below_size (Lz HB)) : w.heap.size ≤ gb503)); have GE503 := Aside0.mk ((by rw [hg]; exact (below_size (Lz HB)) : w.heap.size ≤ gb503)); replace HB := Aside0.mk (below_step (Lz HB) hb); clear hb hbox hg; have hcz17_0 : w16.cell? ⟨gb503, 0, none⟩ = some (.int .i64 a0_0) := (blk_cell BK503.out 0).trans rfl; have hcz17_1 : w16.cell? ⟨gb503, 1, none⟩ = some (.slice A0_1 l0_1.length c0_1) := (blk_cell BK503.out 1).trans rfl; have hfz17_0 := blk_frozen BK503.out 0; have hfz17_1 := blk_frozen BK503.out 1) | ((with_reducible refine gate_callee (f := 71) rfl ?_); refine goesM_ (some 12) rfl rfl Try.func71 (by kernel_rfl) rfl #[.agg #[.int .i64 a0_0, .slice A0_1 l0_1.length c0_1], .slice A1 l1.length c1] rfl ?_; (with_reducible refine (impl_DivisorOk.calls k a0_0 _ _ l0_1 _ _ l1 true _ ?side1 ?side2 ?side3 ?side4 A4.out).mono ?_); (case side1 => exact Cz ((Kd.C_below HR0_1.out HB.out))); (case side2 => exact HC0_1.out); (case side3 => exact Cz ((Kd.C_below HR1.out HB.out))); (case side4 => exact HC1.out); rintro e w18 ⟨rfl, hb⟩; refine ⟨_, rfl, ?_⟩; replace BK503 := Aside0.mk (blk_below (g := gb503) (o := .cells #[.int .i64 a0_0, .slice A0_1 l0_1.length c0_1] 31 (0, 0)) (Bz BK503) hb); replace HB := Aside0.mk (below_step (by exact Lz1 HB GE503) hb); (try clear hb); (try clear hb2); (try clear hk); (try clear hi); have hcz19_0 : w18.cell? ⟨gb503, 0, none⟩ = some (.int .i64 a0_0) := (blk_cell BK503.out 0).trans rfl; have hcz19_1 : w18.cell? ⟨gb503, 1, none⟩ = some (.slice A0_1 l0_1.length c0_1) := (blk_cell BK503.out 1).trans rfl; have hfz19_0 := blk_frozen BK503.out 0; have hfz19_1 := blk_frozen BK503.out 1) | (go_at_call 72; (with_reducible refine (impl_isVertex.calls k a0_0 _ _ l0_1 a2 false _ ?side1 ?side2 A6.out).mono ?_); (case side1 => exact Cz ((Kd.C_below HR0_1.out HB.out))); (case side2 => exact HC0_1.out); rintro e w20 ⟨rfl, hb⟩; replace BK503 := Aside0.mk (blk_below (g := gb503) (o := .cells #[.int .i64 a0_0, .slice A0_1 l0_1.length c0_1] 31 (0, 0)) (Bz BK503) hb); replace HB := Aside0.mk (below_step (by exact Lz1 HB GE503) hb); (try clear hb); (try clear hb2); (try clear hk); (try clear hi)))
  go_ret2
  exact ⟨_, by first | rfl | (simp [errW_none, errW_some] <;> rfl) | (simp [*, errW_none, errW_some] <;> rfl), by first | exact Kd.R_nil _ _ _ _ _ | exact Kd.N_nil _ _ _ _ _ | exact Kd.V_nil _ _ _ _ _ | exact Kd.Q_nil _ _ _ _ _ | exact Kd.S_nil _ _ _ _ _, by exact Lz1 HB GE503⟩
 replace c5 := Bool.eq_false_iff.mpr c5
 subst c5
 have H1 : (some (([] : List Int), false)) = some (r1, r2) := by rw [if_neg (show ¬ (false = true) by decide)] at H; exact H
 clear H
 have H := H1
 clear H1
 simp only [Option.some.injEq, Prod.mk.injEq] at H
 obtain ⟨rfl, rfl⟩ := H
 go_enter Try.func25, Try.ntmps25
 go_wp2_with (first | ((with_reducible refine gate_dst (N := 3) rfl ?_); refine box_event ?hg (N := 3) ?hd (cs := #[.int .i64 a0_0, .slice A0_1 l0_1.length c0_1]) (t := 31) ?hr ?_; (case hd => rfl); (case hg => rfl); (case hr => first | (go_simp; done) | (go_simp; rfl)); intro gb503 hg w21 hbox hb; have BK503 := Aside0.mk (hbox); have GW503 := Aside0.mk ((by rw [hg]; exact (below_size (Lz HB)) : w.heap.size ≤ gb503)); have GE503 := Aside0.mk ((by rw [hg]; exact (below_size (Lz HB)) : w.heap.size ≤ gb503)); replace HB := Aside0.mk (below_step (Lz HB) hb); clear hb hbox hg; have hcz22_0 : w21.cell? ⟨gb503, 0, none⟩ = some (.int .i64 a0_0) := (blk_cell BK503.out 0).trans rfl; have hcz22_1 : w21.cell? ⟨gb503, 1, none⟩ = some (.slice A0_1 l0_1.length c0_1) := (blk_cell BK503.out 1).trans rfl; have hfz22_0 := blk_frozen BK503.out 0; have hfz22_1 := blk_frozen BK503.out 1) | ((with_reducible refine gate_callee (f := 71) rfl ?_); refine goesM_ (some 12) rfl rfl Try.func71 (by kernel_rfl) rfl #[.agg #[.int .i64 a0_0, .slice A0_1 l0_1.length c0_1], .slice A1 l1.length c1] rfl ?_; (with_reducible refine (impl_DivisorOk.calls k a0_0 _ _ l0_1 _ _ l1 false _ ?side1 ?side2 ?side3 ?side4 A4.out).mono ?_); (case side1 => exact Cz ((Kd.C_below HR0_1.out HB.out))); (case side2 => exact HC0_1.out); (case side3 => exact Cz ((Kd.C_below HR1.out HB.out))); (case side4 => exact HC1.out); rintro e w23 ⟨rfl, hb⟩; refine ⟨_, rfl, ?_⟩; replace BK503 := Aside0.mk (blk_below (g := gb503) (o := .cells #[.int .i64 a0_0, .slice A0_1 l0_1.length c0_1] 31 (0, 0)) (Bz BK503) hb); replace HB := Aside0.mk (below_step (by exact Lz1 HB GE503) hb); (try clear hb); (try clear hb2); (try clear hk); (try clear hi)))
 go_ret2
 exact ⟨_, by first | rfl | (simp [errW_none, errW_some] <;> rfl) | (simp [*, errW_none, errW_some] <;> rfl), by first | exact Kd.R_nil _ _ _ _ _ | exact Kd.N_nil _ _ _ _ _ | exact Kd.V_nil _ _ _ _ _ | exact Kd.Q_nil _ _ _ _ _ | exact Kd.S_nil _ _ _ _ _, by exact Lz1 HB GE503⟩
def impl_RepresentativeOf.f (k : Nat) (a0_0 : Int) (l0_1 : List (S67)) (l1 : List Int) : Option (List Int × Bool) := (impl_ReducedOf.f k a0_0 l0_1 l1 0).bind fun bt513 => (some (bt513.1, bt513.2))
set_option maxHeartbeats 8000000 in
set_option maxRecDepth 100000 in
theorem impl_RepresentativeOf.calls (k : Nat) (a0_0 : Int) (A0_1 : Option Addr) (c0_1 : Nat) (l0_1 : List (S67)) (A1 : Option Addr) (c1 : Nat) (l1 : List Int) (r1 : List Int) (r2 : Bool) (w : World) (hr0_1 : Kd.C k67 w A0_1 l0_1.length l0_1) (hc0_1 : l0_1.length ≤ c0_1) (hr1 : Kd.C (Kd.int .i64) w A1 l1.length l1) (hc1 : l1.length ≤ c1) (h : impl_RepresentativeOf.f k a0_0 l0_1 l1 = some (r1, r2)) :
  Calls Try.prog 84 #[.agg #[.int .i64 a0_0, .slice A0_1 l0_1.length c0_1], .slice A1 l1.length c1] w fun e w' => ∃ v0_ : Value, e = .returned (.tuple #[v0_, .bool r2]) ∧ Kd.R (Kd.int .i64) 3 w' w.heap.size (fun _ => True) v0_ r1 ∧ Below w.heap.size w w' := by
 have hu31 := Try.underlying31
 have HR0_1 := Aside0.mk hr0_1
 have HC0_1 := Aside0.mk hc0_1
 clear hr0_1 hc0_1
 have HR1 := Aside0.mk hr1
 have HC1 := Aside0.mk hc1
 clear hr1 hc1
 have HB := Aside0.mk (Below.refl w.heap.size w)
 have H : ((impl_ReducedOf.f k a0_0 l0_1 l1 0).bind fun bt513 => (some (bt513.1, bt513.2))) = some (r1, r2) := h
 clear h
 replace H := Option.bind_eq_some_iff.mp H
 obtain ⟨⟨t513, t516⟩, A30, H⟩ := H
 replace H : (some (t513, t516)) = some (r1, r2) := H
 have A3 := Aside0.mk A30
 clear A30
 simp only [Option.some.injEq, Prod.mk.injEq] at H
 obtain ⟨rfl, rfl⟩ := H
 go_enter Try.func84, Try.ntmps84
 go_wp2_with (first | ((with_reducible refine gate_dst (N := 2) rfl ?_); refine box_event ?hg (N := 2) ?hd (cs := #[.int .i64 a0_0, .slice A0_1 l0_1.length c0_1]) (t := 31) ?hr ?_; (case hd => rfl); (case hg => rfl); (case hr => first | (go_simp; done) | (go_simp; rfl)); intro gb512 hg w4 hbox hb; have BK512 := Aside0.mk (hbox); have GW512 := Aside0.mk ((by rw [hg]; exact (below_size (Lz HB)) : w.heap.size ≤ gb512)); have GE512 := Aside0.mk ((by rw [hg]; exact (below_size (Lz HB)) : w.heap.size ≤ gb512)); replace HB := Aside0.mk (below_step (Lz HB) hb); clear hb hbox hg; have hcz5_0 : w4.cell? ⟨gb512, 0, none⟩ = some (.int .i64 a0_0) := (blk_cell BK512.out 0).trans rfl; have hcz5_1 : w4.cell? ⟨gb512, 1, none⟩ = some (.slice A0_1 l0_1.length c0_1) := (blk_cell BK512.out 1).trans rfl; have hfz5_0 := blk_frozen BK512.out 0; have hfz5_1 := blk_frozen BK512.out 1) | ((with_reducible refine gate_callee (f := 25) rfl ?_); refine goesM_ (some 8) rfl rfl Try.func25 (by kernel_rfl) rfl #[.agg #[.int .i64 a0_0, .slice A0_1 l0_1.length c0_1], .slice A1 l1.length c1, .int .i64 0] rfl ?_; (with_reducible refine (impl_ReducedOf.calls k a0_0 _ _ l0_1 _ _ l1 0 t513 t516 _ ?side1 ?side2 ?side3 ?side4 A3.out).mono ?_); (case side1 => exact Cz ((Kd.C_below HR0_1.out HB.out))); (case side2 => exact HC0_1.out); (case side3 => exact Cz ((Kd.C_below HR1.out HB.out))); (case side4 => exact HC1.out); rintro e w6 ⟨v514, rfl, ho0, hb⟩; refine ⟨_, rfl, ?_⟩; have HO515 := Aside0.mk (Kd.R_lower ho0 (below_size (by exact Lz1 HB GE512))); replace BK512 := Aside0.mk (blk_below (g := gb512) (o := .cells #[.int .i64 a0_0, .slice A0_1 l0_1.length c0_1] 31 (0, 0)) (Bz BK512) hb); replace HB := Aside0.mk (below_step (by exact Lz1 HB GE512) hb); (try clear hb); (try clear ho0)))
 go_ret2
 exact ⟨_, by first | rfl | (simp [errW_none, errW_some] <;> rfl) | (simp [*, errW_none, errW_some] <;> rfl), by exact Rz HO515, by exact Lz1 HB GE512⟩
def slices_Equal_int_int.l0 : Nat → List Int → List Int → Int → Int → Option (Bool)
 | 0, _, _, _, _ => none
 | k + 1, x0, x1, x12, x13 => if x13 < x12 then (if 0 ≤ x13 then (if x13 < (x0.length : Int) then (if x13 < (x1.length : Int) then (if (rd x0 x13) = (rd x1 x13) then (slices_Equal_int_int.l0 k x0 x1 x12 (wrap64 (x13 + 1))) else (some false)) else (none)) else (none)) else (none)) else (some true)
def slices_Equal_int_int.f (k : Nat) (l0 : List Int) (l1 : List Int) : Option (Bool) := if (l0.length : Int) = (l1.length : Int) then (slices_Equal_int_int.l0 k l0 l1 (l0.length : Int) 0) else (some false)
set_option maxHeartbeats 8000000 in
set_option maxRecDepth 100000 in
theorem slices_Equal_int_int.calls (k : Nat) (A0 : Option Addr) (c0 : Nat) (l0 : List Int) (A1 : Option Addr) (c1 : Nat) (l1 : List Int) (r : Bool) (w : World) (hr0 : Kd.C (Kd.int .i64) w A0 l0.length l0) (hc0 : l0.length ≤ c0) (hr1 : Kd.C (Kd.int .i64) w A1 l1.length l1) (hc1 : l1.length ≤ c1) (h : slices_Equal_int_int.f k l0 l1 = some r) :
  Calls Try.prog 110 #[.slice A0 l0.length c0, .slice A1 l1.length c1] w fun e w' => e = .returned (.bool r) ∧ Drawn0 w w' := by
 have HR0 := Aside0.mk hr0
 have HC0 := Aside0.mk hc0
 clear hr0 hc0
 have HR1 := Aside0.mk hr1
 have HC1 := Aside0.mk hc1
 clear hr1 hc1
 have H : (if (l0.length : Int) = (l1.length : Int) then (slices_Equal_int_int.l0 k l0 l1 (l0.length : Int) 0) else (some false)) = some r := h
 clear h
 by_cases c3 : (l0.length : Int) = (l1.length : Int)
 ·rw [if_pos c3] at H
  have c3b0 : ((l0.length : Int) == (l1.length : Int)) = true := beq_iff_eq.mpr c3
  have c3b1 : ((l0.length : Int) != (l1.length : Int)) = false := bne_eq_false_iff_eq.mpr c3
  have c3b2 : (l0.length == l1.length) = true := by first | simpa using c3 | (simp at c3 ⊢; omega)
  clear c3
  have H' := Aside0.mk H
  clear H
  go_enter Try.func110, Try.ntmps110
  go_wp2
  repeat (go_quiet (fail); try go_wp2)
  go_loopg [13] k (fun kq v13 w' => ∃ (x13_1 : Int), v13 = .int .i64 x13_1 ∧ Aside0 (slices_Equal_int_int.l0 kq l0 l1 (l0.length : Int) x13_1 = some r) ∧ Aside0 (kq ≤ k) ∧ Drawn0 w w')
  case atStart => exact ⟨(0), eqA, H', ⟨Nat.le_refl _⟩, by repeat (first | exact Drawn0.refl _ | apply Drawn0.step)⟩
  case round =>
   clear H'
   try clear c1
   try clear c3
   try clear c3b0
   try clear c3b1
   try clear c3b2
   obtain ⟨x13_1, rfl, HA, HK1, ⟨m1, rfl⟩⟩ := hrel
   cases gk with
   | zero => exact absurd HA.out (by simp [slices_Equal_int_int.l0])
   | succ k1 =>
    have H := HA.out
    clear HA
    simp only [slices_Equal_int_int.l0] at H
    by_cases c4 : x13_1 < (l0.length : Int)
    ·rw [if_pos c4] at H
     have c4b0 : decide (x13_1 < (l0.length : Int)) = true := decide_eq_true c4
     clear c4
     by_cases c5 : 0 ≤ x13_1
     ·rw [if_pos c5] at H
      have c5b0 : decide (0 ≤ x13_1) = true := decide_eq_true c5
      clear c5
      by_cases c6 : x13_1 < (l0.length : Int)
      ·rw [if_pos c6] at H
       have c6b0 : decide (x13_1 < (l0.length : Int)) = true := decide_eq_true c6
       clear c6
       by_cases c7 : x13_1 < (l1.length : Int)
       ·rw [if_pos c7] at H
        have c7b0 : decide (x13_1 < (l1.length : Int)) = true := decide_eq_true c7
        clear c7
        by_cases c8 : (rd l0 x13_1) = (rd l1 x13_1)
        ·rw [if_pos c8] at H
         have c8b0 : ((rd l0 x13_1) == (rd l1 x13_1)) = true := beq_iff_eq.mpr c8
         have c8b1 : ((rd l0 x13_1) != (rd l1 x13_1)) = false := bne_eq_false_iff_eq.mpr c8
         clear c8
         have H' := Aside0.mk H
         clear H
         have p517 : 0 ≤ (x13_1 : Int) := ofA
         have q517 : x13_1 < (l0.length : Int) := ofA
         obtain ⟨ad517, e517, hx517_0⟩ := Kd.at_int HR0.out x13_1 p517 q517
         cases e517
         replace p517 := eq_true p517
         replace q517 := eq_true q517
         have p518 : 0 ≤ (x13_1 : Int) := ofA
         have q518 : x13_1 < (l1.length : Int) := ofA
         obtain ⟨ad518, e518, hx518_0⟩ := Kd.at_int HR1.out x13_1 p518 q518
         cases e518
         replace p518 := eq_true p518
         replace q518 := eq_true q518
         go_wp2
         repeat (go_quiet (fail); try go_wp2)
         go_roundg k1
         case measure => have := HK1.out; omega
         case rel => exact ⟨(wrap64 (x13_1 + 1)), eqA, H', ⟨by have := HK1.out; omega⟩, by repeat (first | exact Drawn0.refl _ | apply Drawn0.step)⟩
        rw [if_neg c8] at H
        have c8b0 : ((rd l0 x13_1) == (rd l1 x13_1)) = false := beq_eq_false_iff_ne.mpr c8
        have c8b1 : ((rd l0 x13_1) != (rd l1 x13_1)) = true := bne_iff_ne.mpr c8
        obtain rfl := Option.some.inj H
        have p517 : 0 ≤ (x13_1 : Int) := ofA
        have q517 : x13_1 < (l0.length : Int) := ofA
        obtain ⟨ad517, e517, hx517_0⟩ := Kd.at_int HR0.out x13_1 p517 q517
        cases e517
        replace p517 := eq_true p517
        replace q517 := eq_true q517
        have p518 : 0 ≤ (x13_1 : Int) := ofA
        have q518 : x13_1 < (l1.length : Int) := ofA
        obtain ⟨ad518, e518, hx518_0⟩ := Kd.at_int HR1.out x13_1 p518 q518
        cases e518
        replace p518 := eq_true p518
        replace q518 := eq_true q518
        go_wp2
        repeat (go_quiet (fail); try go_wp2)
        go_ret
        exact ⟨eqA, by repeat (first | exact Drawn0.refl _ | apply Drawn0.step)⟩
       rw [if_neg c7] at H
       exact absurd H (by simp)
      rw [if_neg c6] at H
      exact absurd H (by simp)
     rw [if_neg c5] at H
     exact absurd H (by simp)
    rw [if_neg c4] at H
    have c4b0 : decide (x13_1 < (l0.length : Int)) = false := decide_eq_false c4
    clear c4
    obtain rfl := Option.some.inj H
    go_wp2
    repeat (go_quiet (fail); try go_wp2)
    go_ret
    exact ⟨eqA, by repeat (first | exact Drawn0.refl _ | apply Drawn0.step)⟩
 rw [if_neg c3] at H
 have c3b0 : ((l0.length : Int) == (l1.length : Int)) = false := beq_eq_false_iff_ne.mpr c3
 have c3b1 : ((l0.length : Int) != (l1.length : Int)) = true := bne_iff_ne.mpr c3
 have c3b2 : (l0.length == l1.length) = false := by first | simpa using c3 | (simp at c3 ⊢; omega)
 obtain rfl := Option.some.inj H
 go_enter Try.func110, Try.ntmps110
 go_wp2
 repeat (go_quiet (fail); try go_wp2)
 go_ret
 exact ⟨eqA, by repeat (first | exact Drawn0.refl _ | apply Drawn0.step)⟩
def impl_SameDivisor.f (k : Nat) (l0 : List Int) (l1 : List Int) : Option (Bool) := (slices_Equal_int_int.f k l0 l1).bind fun t519 => (some t519)
set_option maxHeartbeats 8000000 in
set_option maxRecDepth 100000 in
theorem impl_SameDivisor.calls (k : Nat) (A0 : Option Addr) (c0 : Nat) (l0 : List Int) (A1 : Option Addr) (c1 : Nat) (l1 : List Int) (r : Bool) (w : World) (hr0 : Kd.C (Kd.int .i64) w A0 l0.length l0) (hc0 : l0.length ≤ c0) (hr1 : Kd.C (Kd.int .i64) w A1 l1.length l1) (hc1 : l1.length ≤ c1) (h : impl_SameDivisor.f k l0 l1 = some r) :
  Calls Try.prog 85 #[.slice A0 l0.length c0, .slice A1 l1.length c1] w fun e w' => e = .returned (.bool r) ∧ Drawn0 w w' := by
 have HR0 := Aside0.mk hr0
 have HC0 := Aside0.mk hc0
 clear hr0 hc0
 have HR1 := Aside0.mk hr1
 have HC1 := Aside0.mk hc1
 clear hr1 hc1
 have H : ((slices_Equal_int_int.f k l0 l1).bind fun t519 => (some t519)) = some r := h
 clear h
 replace H := Option.bind_eq_some_iff.mp H
 obtain ⟨t519, A30, H⟩ := H
 replace H : (some t519) = some r := H
 have A3 := Aside0.mk A30
 clear A30
 obtain rfl := Option.some.inj H
 go_enter Try.func85, Try.ntmps85
 go_wp2_with (first | ((with_reducible refine gate_callee (f := 110) rfl ?_); refine goesM_ (some 7) rfl rfl Try.func110 (by kernel_rfl) rfl #[.slice A0 l0.length c0, .slice A1 l1.length c1] rfl ?_; (with_reducible refine (slices_Equal_int_int.calls k _ _ l0 _ _ l1 t519 _ ?side1 ?side2 ?side3 ?side4 A3.out).mono ?_); (case side1 => exact Cz (HR0.out)); (case side2 => exact HC0.out); (case side3 => exact Cz (HR1.out)); (case side4 => exact HC1.out); rintro e w' ⟨rfl, ⟨nd, rfl⟩⟩; refine ⟨_, rfl, ?_⟩))
 go_ret
 exact ⟨eqA, by repeat (first | exact Drawn0.refl _ | apply Drawn0.step)⟩
def impl_AreEquivalent.f (k : Nat) (a0_0 : Int) (l0_1 : List (S67)) (l1 : List Int) (l2 : List Int) : Option (Bool) := (impl_RepresentativeOf.f k a0_0 l0_1 l1).bind fun bt521 => ((impl_RepresentativeOf.f k a0_0 l0_1 l2).bind fun bt525 => (if bt521.2 = true then (if bt525.2 = true then ((impl_SameDivisor.f k bt521.1 bt525.1).bind fun t529 => (some t529)) else (some false)) else (some false)))
set_option maxHeartbeats 8000000 in
set_option maxRecDepth 100000 in
theorem impl_AreEquivalent.calls (k : Nat) (a0_0 : Int) (A0_1 : Option Addr) (c0_1 : Nat) (l0_1 : List (S67)) (A1 : Option Addr) (c1 : Nat) (l1 : List Int) (A2 : Option Addr) (c2 : Nat) (l2 : List Int) (r : Bool) (w : World) (hr0_1 : Kd.C k67 w A0_1 l0_1.length l0_1) (hc0_1 : l0_1.length ≤ c0_1) (hr1 : Kd.C (Kd.int .i64) w A1 l1.length l1) (hc1 : l1.length ≤ c1) (hr2 : Kd.C (Kd.int .i64) w A2 l2.length l2) (hc2 : l2.length ≤ c2) (h : impl_AreEquivalent.f k a0_0 l0_1 l1 l2 = some r) :
  Calls Try.prog 45 #[.agg #[.int .i64 a0_0, .slice A0_1 l0_1.length c0_1], .slice A1 l1.length c1, .slice A2 l2.length c2] w fun e w' => e = .returned (.bool r) ∧ Below w.heap.size w w' := by
 have hu31 := Try.underlying31
 have HR0_1 := Aside0.mk hr0_1
 have HC0_1 := Aside0.mk hc0_1
 clear hr0_1 hc0_1
 have HR1 := Aside0.mk hr1
 have HC1 := Aside0.mk hc1
 clear hr1 hc1
 have HR2 := Aside0.mk hr2
 have HC2 := Aside0.mk hc2
 clear hr2 hc2
 have HB := Aside0.mk (Below.refl w.heap.size w)
 have H : ((impl_RepresentativeOf.f k a0_0 l0_1 l1).bind fun bt521 => ((impl_RepresentativeOf.f k a0_0 l0_1 l2).bind fun bt525 => (if bt521.2 = true then (if bt525.2 = true then ((impl_SameDivisor.f k bt521.1 bt525.1).bind fun t529 => (some t529)) else (some false)) else (some false)))) = some r := h
 clear h
 replace H := Option.bind_eq_some_iff.mp H
 obtain ⟨⟨t521, t524⟩, A40, H⟩ := H
 replace H : ((impl_RepresentativeOf.f k a0_0 l0_1 l2).bind fun bt525 => (if t524 = true then (if bt525.2 = true then ((impl_SameDivisor.f k t521 bt525.1).bind fun t529 => (some t529)) else (some false)) else (some false))) = some r := H
 have A4 := Aside0.mk A40
 clear A40
 replace H := Option.bind_eq_some_iff.mp H
 obtain ⟨⟨t525, t528⟩, A50, H⟩ := H
 replace H : (if t524 = true then (if t528 = true then ((impl_SameDivisor.f k t521 t525).bind fun t529 => (some t529)) else (some false)) else (some false)) = some r := H
 have A5 := Aside0.mk A50
 clear A50
 by_cases c6 : t524 = true
 ·subst c6
  have H1 : (if t528 = true then ((impl_SameDivisor.f k t521 t525).bind fun t529 => (some t529)) else (some false)) = some r := by rw [if_pos rfl] at H; exact H
  clear H
  have H := H1
  clear H1
  by_cases c7 : t528 = true
  ·subst c7
   have H1 : ((impl_SameDivisor.f k t521 t525).bind fun t529 => (some t529)) = some r := by rw [if_pos rfl] at H; exact H
   clear H
   have H := H1
   clear H1
   replace H := Option.bind_eq_some_iff.mp H
   obtain ⟨t529, A80, H⟩ := H
   replace H : (some t529) = some r := H
   have A8 := Aside0.mk A80
   clear A80
   obtain rfl := Option.some.inj H
   go_enter Try.func45, Try.ntmps45
   go_wp2_with (first | ((with_reducible refine gate_dst (N := 3) rfl ?_); refine box_event ?hg (N := 3) ?hd (cs := #[.int .i64 a0_0, .slice A0_1 l0_1.length c0_1]) (t := 31) ?hr ?_; (case hd => rfl); (case hg => rfl); (case hr => first | (go_simp; done) | (go_simp; rfl)); intro gb520 hg w9 hbox hb; have BK520 := Aside0.mk (hbox); have GW520 := Aside0.mk ((by rw [hg]; exact (below_size (Lz HB)) : w.heap.size ≤ gb520)); have GE520 := Aside0.mk ((by rw [hg]; exact (below_size (Lz HB)) : w.heap.size ≤ gb520)); replace HB := Aside0.mk (below_step (Lz HB) hb); clear hb hbox hg; have hcz10_0 : w9.cell? ⟨gb520, 0, none⟩ = some (.int .i64 a0_0) := (blk_cell BK520.out 0).trans rfl; have hcz10_1 : w9.cell? ⟨gb520, 1, none⟩ = some (.slice A0_1 l0_1.length c0_1) := (blk_cell BK520.out 1).trans rfl; have hfz10_0 := blk_frozen BK520.out 0; have hfz10_1 := blk_frozen BK520.out 1) | ((with_reducible refine gate_callee (f := 84) rfl ?_); refine goesM_ (some 14) rfl rfl Try.func84 (by kernel_rfl) rfl #[.agg #[.int .i64 a0_0, .slice A0_1 l0_1.length c0_1], .slice A1 l1.length c1] rfl ?_; (with_reducible refine (impl_RepresentativeOf.calls k a0_0 _ _ l0_1 _ _ l1 t521 true _ ?side1 ?side2 ?side3 ?side4 A4.out).mono ?_); (case side1 => exact Cz ((Kd.C_below HR0_1.out HB.out))); (case side2 => exact HC0_1.out); (case side3 => exact Cz ((Kd.C_below HR1.out HB.out))); (case side4 => exact HC1.out); rintro e w11 ⟨v522, rfl, ho0, hb⟩; refine ⟨_, rfl, ?_⟩; have HO523 := Aside0.mk (Kd.R_lower ho0 (below_size (by exact Lz1 HB GE520))); replace BK520 := Aside0.mk (blk_below (g := gb520) (o := .cells #[.int .i64 a0_0, .slice A0_1 l0_1.length c0_1] 31 (0, 0)) (Bz BK520) hb); replace HB := Aside0.mk (below_step (by exact Lz1 HB GE520) hb); (try clear hb); (try clear ho0); have hcz12_0 : w11.cell? ⟨gb520, 0, none⟩ = some (.int .i64 a0_0) := (blk_cell BK520.out 0).trans rfl; have hcz12_1 : w11.cell? ⟨gb520, 1, none⟩ = some (.slice A0_1 l0_1.length c0_1) := (blk_cell BK520.out 1).trans rfl; have hfz12_0 := blk_frozen BK520.out 0; have hfz12_1 := blk_frozen BK520.out 1) | ((with_reducible refine gate_callee (f := 84) rfl ?_); refine goesM_ (some 20) rfl rfl Try.func84 (by kernel_rfl) rfl #[.agg #[.int .i64 a0_0, .slice A0_1 l0_1.length c0_1], .slice A2 l2.length c2] rfl ?_; (with_reducible refine (impl_RepresentativeOf.calls k a0_0 _ _ l0_1 _ _ l2 t525 true _ ?side1 ?side2 ?side3 ?side4 A5.out).mono ?_); (case side1 => exact Cz ((Kd.C_below HR0_1.out HB.out))); (case side2 => exact HC0_1.out); (case side3 => exact Cz ((Kd.C_below HR2.out HB.out))); (case side4 => exact HC2.out); rintro e w13 ⟨v526, rfl, ho0, hb⟩; refine ⟨_, rfl, ?_⟩; have HO527 := Aside0.mk (Kd.R_lower (Kd.R_new' ho0 (Kd.R_lt (Rz HO523))) (below_size (by exact Lz1 HB GE520))); replace HO523 := Aside0.mk (Kd.R_elder' (Rz HO523) (Kd.R_base ho0) hb); replace BK520 := Aside0.mk (blk_below (g := gb520) (o := .cells #[.int .i64 a0_0, .slice A0_1 l0_1.length c0_1] 31 (0, 0)) (Bz BK520) hb); replace HB := Aside0.mk (below_step (by exact Lz1 HB GE520) hb); (try clear hb); (try clear ho0); obtain ⟨Ao14, co14, eo14⟩ := Kd.R_slice HO523.out; subst eo14; obtain ⟨Ao15, co15, eo15⟩ := Kd.R_slice HO527.out; subst eo15) | (go_at_call 85; (with_reducible refine (impl_SameDivisor.calls k _ _ t521 _ _ t525 t529 _ ?side1 ?side2 ?side3 ?side4 A8.out).mono ?_); (case side1 => exact Cz ((Kd.R_reads' HO523.out).2.2)); (case side2 => exact (Kd.R_reads' HO523.out).2.1); (case side3 => exact Cz ((Kd.R_reads' HO527.out).2.2)); (case side4 => exact (Kd.R_reads' HO527.out).2.1); rintro e w' ⟨rfl, ⟨nd, rfl⟩⟩))
   go_ret
   exact ⟨by first | rfl | (simp [errW_none, errW_some] <;> rfl) | (simp [*, errW_none, errW_some] <;> rfl), by exact Lz1 HB GE520⟩
  replace c7 := Bool.eq_false_iff.mpr c7
  subst c7
  have H1 : (some false) = some r := by rw [if_neg (show ¬ (false = true) by decide)] at H; exact H
  clear H
  have H := H1
  clear H1
  obtain rfl := Option.some.inj H
  go_enter Try.func45, Try.ntmps45
  go_wp2_with (first | ((with_reducible refine gate_dst (N := 3) rfl ?_); refine box_event ?hg (N := 3) ?hd (cs := #[.int .i64 a0_0, .slice A0_1 l0_1.length c0_1]) (t := 31) ?hr ?_; (case hd => rfl); (case hg => rfl); (case hr => first | (go_simp; done) | (go_simp; rfl)); intro gb520 hg w16 hbox hb; have BK520 := Aside0.mk (hbox); have GW520 := Aside0.mk ((by rw [hg]; exact (below_size (Lz HB)) : w.heap.size ≤ gb520)); have GE520 := Aside0.mk ((by rw [hg]; exact (below_size (Lz HB)) : w.heap.size ≤ gb520)); replace HB := Aside0.mk (below_step (Lz HB) hb); clear hb hbox hg; have hcz17_0 : w16.cell? ⟨gb520, 0, none⟩ = some (.int .i64 a0_0) := (blk_cell BK520.out 0).trans rfl; have hcz17_1 : w16.cell? ⟨gb520, 1, none⟩ = some (.slice A0_1 l0_1.length c0_1) := (blk_cell BK520.out 1).trans rfl; have hfz17_0 := blk_frozen BK520.out 0; have hfz17_1 := blk_frozen BK520.out 1) | ((with_reducible refine gate_callee (f := 84) rfl ?_); refine goesM_ (some 14) rfl rfl Try.func84 (by kernel_rfl) rfl #[.agg #[.int .i64 a0_0, .slice A0_1 l0_1.length c0_1], .slice A1 l1.length c1] rfl ?_; (with_reducible refine (impl_RepresentativeOf.calls k a0_0 _ _ l0_1 _ _ l1 t521 true _ ?side1 ?side2 ?side3 ?side4 A4.out).mono ?_); (case side1 => exact Cz ((Kd.C_below HR0_1.out HB.out))); (case side2 => exact HC0_1.out); (case side3 => exact Cz ((Kd.C_below HR1.out HB.out))); (case side4 => exact HC1.out); rintro e w18 ⟨v522, rfl, ho0, hb⟩; refine ⟨_, rfl, ?_⟩; have HO523 := Aside0.mk (Kd.R_lower ho0 (below_size (by exact Lz1 HB GE520))); replace BK520 := Aside0.mk (blk_below (g := gb520) (o := .cells #[.int .i64 a0_0, .slice A0_1 l0_1.length c0_1] 31 (0, 0)) (Bz BK520) hb); replace HB := Aside0.mk (below_step (by exact Lz1 HB GE520) hb); (try clear hb); (try clear ho0); have hcz19_0 : w18.cell? ⟨gb520, 0, none⟩ = some (.int .i64 a0_0) := (blk_cell BK520.out 0).trans rfl; have hcz19_1 : w18.cell? ⟨gb520, 1, none⟩ = some (.slice A0_1 l0_1.length c0_1) := (blk_cell BK520.out 1).trans rfl; have hfz19_0 := blk_frozen BK520.out 0; have hfz19_1 := blk_frozen BK520.out 1) | ((with_reducible refine gate_callee (f := 84) rfl ?_); refine goesM_ (some 20) rfl rfl Try.func84 (by kernel_rfl) rfl #[.agg #[.int .i64 a0_0, .slice A0_1 l0_1.length c0_1], .slice A2 l2.length c2] rfl ?_; (with_reducible refine (impl_RepresentativeOf.calls k a0_0 _ _ l0_1 _ _ l2 t525 false _ ?side1 ?side2 ?side3 ?side4 A5.out).mono ?_); (case side1 => exact Cz ((Kd.C_below HR0_1.out HB.out))); (case side2 => exact HC0_1.out); (case side3 => exact Cz ((Kd.C_below HR2.out HB.out))); (case side4 => exact HC2.out); rintro e w20 ⟨v526, rfl, ho0, hb⟩; refine ⟨_, rfl, ?_⟩; have HO527 := Aside0.mk (Kd.R_lower (Kd.R_new' ho0 (Kd.R_lt (Rz HO523))) (below_size (by exact Lz1 HB GE520))); replace HO523 := Aside0.mk (Kd.R_elder' (Rz HO523) (Kd.R_base ho0) hb); replace BK520 := Aside0.mk (blk_below (g := gb520) (o := .cells #[.int .i64 a0_0, .slice A0_1 l0_1.length c0_1] 31 (0, 0)) (Bz BK520) hb); replace HB := Aside0.mk (below_step (by exact Lz1 HB GE520) hb); (try clear hb); (try clear ho0)))
  go_ret
  exact ⟨by first | rfl | (simp [errW_none, errW_some] <;> rfl) | (simp [*, errW_none, errW_some] <;> rfl), by exact Lz1 HB GE520⟩
 replace c6 := Bool.eq_false_iff.mpr c6
 subst c6
 have H1 : (some false) = some r := by rw [if_neg (show ¬ (false = true) by decide)] at H; exact H
 clear H
 have H := H1
 clear H1
 obtain rfl := Option.some.inj H
 go_enter Try.func45, Try.ntmps45
 go_wp2_with (first | ((with_reducible refine gate_dst (N := 3) rfl ?_); refine box_event ?hg (N := 3) ?hd (cs := #[.int .i64 a0_0, .slice A0_1 l0_1.length c0_1]) (t := 31) ?hr ?_; (case hd => rfl); (case hg => rfl); (case hr => first | (go_simp; done) | (go_simp; rfl)); intro gb520 hg w21 hbox hb; have BK520 := Aside0.mk (hbox); have GW520 := Aside0.mk ((by rw [hg]; exact (below_size (Lz HB)) : w.heap.size ≤ gb520)); have GE520 := Aside0.mk ((by rw [hg]; exact (below_size (Lz HB)) : w.heap.size ≤ gb520)); replace HB := Aside0.mk (below_step (Lz HB) hb); clear hb hbox hg; have hcz22_0 : w21.cell? ⟨gb520, 0, none⟩ = some (.int .i64 a0_0) := (blk_cell BK520.out 0).trans rfl; have hcz22_1 : w21.cell? ⟨gb520, 1, none⟩ = some (.slice A0_1 l0_1.length c0_1) := (blk_cell BK520.out 1).trans rfl; have hfz22_0 := blk_frozen BK520.out 0; have hfz22_1 := blk_frozen BK520.out 1) | ((with_reducible refine gate_callee (f := 84) rfl ?_); refine goesM_ (some 14) rfl rfl Try.func84 (by kernel_rfl) rfl #[.agg #[.int .i64 a0_0, .slice A0_1 l0_1.length c0_1], .slice A1 l1.length c1] rfl ?_; (with_reducible refine (impl_RepresentativeOf.calls k a0_0 _ _ l0_1 _ _ l1 t521 false _ ?side1 ?side2 ?side3 ?side4 A4.out).mono ?_); (case side1 => exact Cz ((Kd.C_below HR0_1.out HB.out))); (case side2 => exact HC0_1.out); (case side3 => exact Cz ((Kd.C_below HR1.out HB.out))); (case side4 => exact HC1.out); rintro e w23 ⟨v522, rfl, ho0, hb⟩; refine ⟨_, rfl, ?_⟩; have HO523 := Aside0.mk (Kd.R_lower ho0 (below_size (by exact Lz1 HB GE520))); replace BK520 := Aside0.mk (blk_below (g := gb520) (o := .cells #[.int .i64 a0_0, .slice A0_1 l0_1.length c0_1] 31 (0, 0)) (Bz BK520) hb); replace HB := Aside0.mk (below_step (by exact Lz1 HB GE520) hb); (try clear hb); (try clear ho0); have hcz24_0 : w23.cell? ⟨gb520, 0, none⟩ = some (.int .i64 a0_0) := (blk_cell BK520.out 0).trans rfl; have hcz24_1 : w23.cell? ⟨gb520, 1, none⟩ = some (.slice A0_1 l0_1.length c0_1) := (blk_cell BK520.out 1).trans rfl; have hfz24_0 := blk_frozen BK520.out 0; have hfz24_1 := blk_frozen BK520.out 1) | ((with_reducible refine gate_callee (f := 84) rfl ?_); refine goesM_ (some 20) rfl rfl Try.func84 (by kernel_rfl) rfl #[.agg #[.int .i64 a0_0, .slice A0_1 l0_1.length c0_1], .slice A2 l2.length c2] rfl ?_; (with_reducible refine (impl_RepresentativeOf.calls k a0_0 _ _ l0_1 _ _ l2 t525 t528 _ ?side1 ?side2 ?side3 ?side4 A5.out).mono ?_); (case side1 => exact Cz ((Kd.C_below HR0_1.out HB.out))); (case side2 => exact HC0_1.out); (case side3 => exact Cz ((Kd.C_below HR2.out HB.out))); (case side4 => exact HC2.out); rintro e w25 ⟨v526, rfl, ho0, hb⟩; refine ⟨_, rfl, ?_⟩; have HO527 := Aside0.mk (Kd.R_lower (Kd.R_new' ho0 (Kd.R_lt (Rz HO523))) (below_size (by exact Lz1 HB GE520))); replace HO523 := Aside0.mk (Kd.R_elder' (Rz HO523) (Kd.R_base ho0) hb); replace BK520 := Aside0.mk (blk_below (g := gb520) (o := .cells #[.int .i64 a0_0, .slice A0_1 l0_1.length c0_1] 31 (0, 0)) (Bz BK520) hb); replace HB := Aside0.mk (below_step (by exact Lz1 HB GE520) hb); (try clear hb); (try clear ho0)))
 go_ret
 exact ⟨by first | rfl | (simp [errW_none, errW_some] <;> rfl) | (simp [*, errW_none, errW_some] <;> rfl), by exact Lz1 HB GE520⟩
def impl_plus.l0 : Nat → List Int → List Int → Int → Int → Option (List Int)
 | 0, _, _, _, _ => none
 | k + 1, x1, x5, x10, x11 => if x11 < x10 then (if 0 ≤ x11 then (if x11 < (x5.length : Int) then (if x11 < (x1.length : Int) then (impl_plus.l0 k x1 (x5.set (x11 : Int).toNat (wrap64 ((rd x5 x11) + (rd x1 x11)))) x10 (wrap64 (x11 + 1))) else (none)) else (none)) else (none)) else (some x5)
def impl_plus.f (k : Nat) (l0 : List Int) (l1 : List Int) : Option (List Int) := (impl_copyInts.f l0).bind fun t530 => (impl_plus.l0 k l1 t530 (t530.length : Int) 0)
def impl_plus.T5 : Bool × List (List Nat × List Nat) := (true, [([], []), ([], []), ([0, 1], [0, 1]), ([2], [2]), ([], []), ([], []), ([4, 5], [4, 5]), ([6], [6]), ([3, 7], [3, 7]), ([0, 1, 0, 1, 2, 3, 4, 5, 6, 7, 8], [0, 1]), ([9, 8, 0, 1, 2, 3, 4, 5, 6, 7, 8], [8, 9])])
def impl_plus.B5 : List Nat := [0, 0, 3, 7, 0, 0, 48, 112, 255, 511, 1023]
theorem impl_plus.tab5 : rtab .any (opsOf Try.f65 5) = impl_plus.T5 := by kernel_rfl
theorem impl_plus.bits5 : waitsOk impl_plus.T5.2 impl_plus.B5 = true := by kernel_rfl
set_option maxHeartbeats 8000000 in
set_option maxRecDepth 100000 in
theorem impl_plus.calls (k : Nat) (A0 : Option Addr) (c0 : Nat) (l0 : List Int) (A1 : Option Addr) (c1 : Nat) (l1 : List Int) (r : List Int) (w : World) (hr0 : Kd.C (Kd.int .i64) w A0 l0.length l0) (hc0 : l0.length ≤ c0) (hr1 : Kd.C (Kd.int .i64) w A1 l1.length l1) (hc1 : l1.length ≤ c1) (h : impl_plus.f k l0 l1 = some r) :
  Calls Try.prog 65 #[.slice A0 l0.length c0, .slice A1 l1.length c1] w fun e w' => ∃ v0_ : Value, e = .returned (v0_) ∧ Kd.R (Kd.int .i64) 3 w' w.heap.size (fun _ => True) v0_ r ∧ Below w.heap.size w w' := by
 have HR0 := Aside0.mk hr0
 have HC0 := Aside0.mk hc0
 clear hr0 hc0
 have HR1 := Aside0.mk hr1
 have HC1 := Aside0.mk hc1
 clear hr1 hc1
 have HB := Aside0.mk (Below.refl w.heap.size w)
 have H : ((impl_copyInts.f l0).bind fun t530 => (impl_plus.l0 k l1 t530 (t530.length : Int) 0)) = some r := h
 clear h
 replace H := Option.bind_eq_some_iff.mp H
 obtain ⟨t530, A30, H⟩ := H
 replace H : (impl_plus.l0 k l1 t530 (t530.length : Int) 0) = some r := H
 have A3 := Aside0.mk A30
 clear A30
 have H' := Aside0.mk H
 clear H
 go_enter Try.func65, Try.ntmps65
 go_wp2_with (first | ((with_reducible refine gate_callee (f := 79) rfl ?_); refine goesM_ (some 8) rfl rfl Try.func79 (by kernel_rfl) rfl #[.slice A0 l0.length c0] rfl ?_; (with_reducible refine (impl_copyInts.calls _ _ l0 t530 _ ?side1 ?side2 A3.out).mono ?_); (case side1 => exact Cz (HR0.out)); (case side2 => exact HC0.out); rintro e w4 ⟨v531, rfl, ho0, hb⟩; refine ⟨_, rfl, ?_⟩; have HO532 := Aside0.mk (Kd.R_lower ho0 (below_size (Lz HB))); replace HB := Aside0.mk (below_step (Lz HB) hb); (try clear hb); (try clear ho0); obtain ⟨Ao5, co5, eo5⟩ := Kd.R_slice HO532.out; subst eo5))
 go_loopg [11] k (fun kq v11 w' => ∃ (x5_1 : List Int) (x11_1 : Int), v11 = .int .i64 x11_1 ∧ Aside0 (impl_plus.l0 kq l1 x5_1 (t530.length : Int) x11_1 = some r) ∧ Aside0 (kq ≤ k) ∧ Aside0 (Kd.R (Kd.int .i64) 3 w' w.heap.size (fun _ => True) (.slice Ao5 t530.length co5) x5_1) ∧ Aside0 (Below w.heap.size w w'))
 case atStart => exact ⟨(t530), (0), eqA, H', ⟨Nat.le_refl _⟩, ⟨by exact Rz HO532⟩, ⟨by exact Lz HB⟩⟩
 case round =>
  clear H'
  try clear c1
  obtain ⟨x5_1, x11_1, rfl, HA, HK1, HO_5, HB⟩ := hrel
  have hl5_1 := (Kd.R_reads' HO_5.out).1
  rw [hl5_1] at HO_5
  (try simp only [hl5_1])
  cases gk with
  | zero => exact absurd HA.out (by simp [impl_plus.l0])
  | succ k1 =>
   have H := HA.out
   clear HA
   simp only [impl_plus.l0] at H
   by_cases c6 : x11_1 < (t530.length : Int)
   ·rw [if_pos c6] at H
    have c6b0 : decide (x11_1 < (t530.length : Int)) = true := decide_eq_true c6
    (try simp only [hl5_1] at c6b0)
    clear c6
    by_cases c7 : 0 ≤ x11_1
    ·rw [if_pos c7] at H
     have c7b0 : decide (0 ≤ x11_1) = true := decide_eq_true c7
     clear c7
     by_cases c8 : x11_1 < (x5_1.length : Int)
     ·rw [if_pos c8] at H
      have c8b0 : decide (x11_1 < (x5_1.length : Int)) = true := decide_eq_true c8
      (try simp only [hl5_1] at c8b0)
      clear c8
      by_cases c9 : x11_1 < (l1.length : Int)
      ·rw [if_pos c9] at H
       have c9b0 : decide (x11_1 < (l1.length : Int)) = true := decide_eq_true c9
       (try simp only [hl5_1] at c9b0)
       clear c9
       obtain ⟨y535, hy535⟩ : ∃ y_ : List Int, y_ = (x5_1.set (x11_1 : Int).toNat (wrap64 ((rd x5_1 x11_1) + (rd l1 x11_1)))) := ⟨_, rfl⟩
       replace H : (impl_plus.l0 k1 l1 y535 (t530.length : Int) (wrap64 (x11_1 + 1))) = some r := by first | (rw [hy535]; with_reducible exact H) | (have H2_ := (Option.bind_some _ _).symm.trans H; rw [hy535]; with_reducible exact H2_) | (have H2_ := (Option.bind_some _ _).symm.trans H; with_reducible exact H2_) | with_reducible exact H | (rw [hy535]; exact H) | exact H
       have Ny535 := Aside0.mk hy535
       clear hy535
       have H' := Aside0.mk H
       clear H
       try go_wp2
       replace HO_5 := Aside0.mk (Kd.R_drew HO_5.out)
       replace HB := Aside0.mk (below_drew1 HB.out)
       have p533 : 0 ≤ (x11_1 : Int) := ofA
       have q533 : x11_1 < (x5_1.length : Int) := ofA
       obtain ⟨ad533, e533, hx533_0⟩ := Kd.at_int (Kd.R_reads' HO_5.out).2.2 x11_1 p533 q533
       cases e533
       replace p533 := eq_true p533
       replace q533 := eq_true q533
       have p534 : 0 ≤ (x11_1 : Int) := ofA
       have q534 : x11_1 < (l1.length : Int) := ofA
       obtain ⟨ad534, e534, hx534_0⟩ := Kd.at_int HR1.out x11_1 p534 q534
       have hw534_0 := hx534_0
       cases e534
       replace hx534_0 := (HB.out.cell (World.block_lt_of_cell? w _ hx534_0)).trans hx534_0
       replace p534 := eq_true p534
       replace q534 := eq_true q534
       have p10 : 0 ≤ (x11_1 : Int) := ofA
       have q10 : (x11_1 : Int) < ((x5_1.length : Int) : Int) := ofA
       obtain ⟨go10, co10, eo10, gb10, gl10, cl10, HG10⟩ := Kd.R_form HO_5.out (by omega)
       (first | cases eo10 | (injection eo10 with ea_ en_ ec_; (first | subst ea_ | (injection ea_ with ea_; subst ea_)); subst ec_; clear en_))
       have GB10 := Aside0.mk gb10
       have GG10 := Aside0.mk HG10
       clear gb10 gl10 HG10
       (first | simp only [add_plain] at hx533_0 | skip)
       obtain ⟨hx10_0, hf10_0⟩ := Kd.R_celln 0 HO_5.out (x11_1 : Int) p10 q10
       replace p10 := eq_true p10
       replace q10 := eq_true q10
       have HP12 := Kd.R_putn HO_5.out (x11_1 : Int) (wrap64 ((rd x5_1 x11_1) + (rd l1 x11_1)))
       rw [← Ny535.out] at HP12
       have HQ12 := Aside0.mk HP12
       clear HP12
       refine start_ (n := 11) (S := fun w' => w'.cell? ⟨go10, (x11_1).toNat, none⟩ = some (.int .i64 (rd x5_1 x11_1)) ∧ w'.cell? (ad534.add (x11_1).toNat) = some (.int .i64 (rd l1 x11_1))) (ds := [10]) #[false, false, false, false, false, false, false, false, false, false, false] (by kernel_rfl) rfl rfl ⟨hx533_0, ((HB.out.cell (World.block_lt_of_cell? w _ hw534_0)).trans hw534_0)⟩ (fun hHeld => ?_); refine with_tabW impl_plus.tab5 impl_plus.bits5 (fun HT_ HW_ => ?_)
       generalize wr.drew = w11 at HO_5 HB GG10 HQ12 hf10_0 hx10_0 hx533_0 hx534_0 hHeld ⊢
       refine pureT_ 0 14 HT_ ?_
       refine pureT_ 1 15 HT_ ?_
       refine pureT_ 2 16 HT_ ?_
       refine pureT_ 4 18 HT_ ?_
       refine pureT_ 5 19 HT_ ?_
       refine pureT_ 6 20 HT_ ?_
       refine takeT_ 3 17 HT_ HW_ hHeld rfl (by rintro w' ⟨s0, s1⟩; go_simp; with_reducible rfl) ?_
       refine takeT_ 7 21 HT_ HW_ hHeld rfl (by rintro w' ⟨s0, s1⟩; go_simp; with_reducible rfl) ?_
       refine pureT_ 8 22 HT_ ?_
       refine pureT_ 9 23 HT_ ?_
       refine last_ (i := 10) (N := none) #[true, true, true, true, true, true, true, true, true, true, true] rfl rfl (one_of HT_.out (by kernel_rfl)) (by decide) (fun K hK => ?_)
       refine skip_ (w1 := ?_) (by rfl) rfl ?_ ?_
       rotate_left
       ·go_simp
        rfl
       refine hK.out _ _ ?_
       clear hK K
       refine done_ (done_of HT_.out (by kernel_rfl)) ?_
       try go_wp2
       (try simp only [← hl5_1])
       go_roundg k1
       case measure => have := HK1.out; omega
       case rel => exact ⟨(y535), (wrap64 (x11_1 + 1)), eqA, H', ⟨by have := HK1.out; omega⟩, ⟨by (try simp only [hl5_1]); exact Rz HQ12⟩, ⟨by exact Lz1 HB GB10⟩⟩
      rw [if_neg c9] at H
      exact absurd H (by simp)
     rw [if_neg c8] at H
     exact absurd H (by simp)
    rw [if_neg c7] at H
    exact absurd H (by simp)
   rw [if_neg c6] at H
   have c6b0 : decide (x11_1 < (t530.length : Int)) = false := decide_eq_false c6
   (try simp only [hl5_1] at c6b0)
   clear c6
   obtain rfl := Option.some.inj H
   go_wp2
   go_ret
   exact ⟨_, by first | rfl | (simp [errW_none, errW_some] <;> rfl) | (simp [*, errW_none, errW_some] <;> rfl), by exact Rz HO_5, by exact Lz HB⟩
def impl_ScriptBetween.f (k : Nat) (a0_0 : Int) (l0_1 : List (S67)) (l1 : List Int) (l2 : List Int) : Option (List Int × Bool) := (impl_AreEquivalent.f k a0_0 l0_1 l1 l2).bind fun t537 => (if t537 = true then ((impl_reduce.f k a0_0 l0_1 l1 0).bind fun bt538 => ((impl_reduce.f k a0_0 l0_1 l2 0).bind fun bt544 => ((impl_NegateDivisor.f k bt544.2).bind fun t550 => ((impl_plus.f k bt538.2 t550).bind fun t553 => ((impl_fromZero.f k t553).bind fun t556 => (some (t556, true))))))) else (some (([] : List Int), false)))
set_option maxHeartbeats 8000000 in
set_option maxRecDepth 100000 in
theorem impl_ScriptBetween.calls (k : Nat) (a0_0 : Int) (A0_1 : Option Addr) (c0_1 : Nat) (l0_1 : List (S67)) (A1 : Option Addr) (c1 : Nat) (l1 : List Int) (A2 : Option Addr) (c2 : Nat) (l2 : List Int) (r1 : List Int) (r2 : Bool) (w : World) (hr0_1 : Kd.C k67 w A0_1 l0_1.length l0_1) (hc0_1 : l0_1.length ≤ c0_1) (hr1 : Kd.C (Kd.int .i64) w A1 l1.length l1) (hc1 : l1.length ≤ c1) (hr2 : Kd.C (Kd.int .i64) w A2 l2.length l2) (hc2 : l2.length ≤ c2) (h : impl_ScriptBetween.f k a0_0 l0_1 l1 l2 = some (r1, r2)) :
  Calls Try.prog 21 #[.agg #[.int .i64 a0_0, .slice A0_1 l0_1.length c0_1], .slice A1 l1.length c1, .slice A2 l2.length c2] w fun e w' => ∃ v0_ : Value, e = .returned (.tuple #[v0_, .bool r2]) ∧ Kd.R (Kd.int .i64) 3 w' w.heap.size (fun _ => True) v0_ r1 ∧ Below w.heap.size w w' := by
 have hu31 := Try.underlying31
 have HR0_1 := Aside0.mk hr0_1
 have HC0_1 := Aside0.mk hc0_1
 clear hr0_1 hc0_1
 have HR1 := Aside0.mk hr1
 have HC1 := Aside0.mk hc1
 clear hr1 hc1
 have HR2 := Aside0.mk hr2
 have HC2 := Aside0.mk hc2
 clear hr2 hc2
 have HB := Aside0.mk (Below.refl w.heap.size w)
 have H : ((impl_AreEquivalent.f k a0_0 l0_1 l1 l2).bind fun t537 => (if t537 = true then ((impl_reduce.f k a0_0 l0_1 l1 0).bind fun bt538 => ((impl_reduce.f k a0_0 l0_1 l2 0).bind fun bt544 => ((impl_NegateDivisor.f k bt544.2).bind fun t550 => ((impl_plus.f k bt538.2 t550).bind fun t553 => ((impl_fromZero.f k t553).bind fun t556 => (some (t556, true))))))) else (some (([] : List Int), false)))) = some (r1, r2) := h
 clear h
 replace H := Option.bind_eq_some_iff.mp H
 obtain ⟨t537, A40, H⟩ := H
 replace H : (if t537 = true then ((impl_reduce.f k a0_0 l0_1 l1 0).bind fun bt538 => ((impl_reduce.f k a0_0 l0_1 l2 0).bind fun bt544 => ((impl_NegateDivisor.f k bt544.2).bind fun t550 => ((impl_plus.f k bt538.2 t550).bind fun t553 => ((impl_fromZero.f k t553).bind fun t556 => (some (t556, true))))))) else (some (([] : List Int), false))) = some (r1, r2) := H
 have A4 := Aside0.mk A40
 clear A40
 by_cases c5 : t537 = true
 ·subst c5
  have H1 : ((impl_reduce.f k a0_0 l0_1 l1 0).bind fun bt538 => ((impl_reduce.f k a0_0 l0_1 l2 0).bind fun bt544 => ((impl_NegateDivisor.f k bt544.2).bind fun t550 => ((impl_plus.f k bt538.2 t550).bind fun t553 => ((impl_fromZero.f k t553).bind fun t556 => (some (t556, true))))))) = some (r1, r2) := by rw [if_pos rfl] at H; exact H
  clear H
  have H := H1
  clear H1
  replace H := Option.bind_eq_some_iff.mp H
  obtain ⟨⟨t538, t541⟩, A60, H⟩ := H
  replace H : ((impl_reduce.f k a0_0 l0_1 l2 0).bind fun bt544 => ((impl_NegateDivisor.f k bt544.2).bind fun t550 => ((impl_plus.f k t541 t550).bind fun t553 => ((impl_fromZero.f k t553).bind fun t556 => (some (t556, true)))))) = some (r1, r2) := H
  have A6 := Aside0.mk A60
  clear A60
  replace H := Option.bind_eq_some_iff.mp H
  obtain ⟨⟨t544, t547⟩, A70, H⟩ := H
  replace H : ((impl_NegateDivisor.f k t547).bind fun t550 => ((impl_plus.f k t541 t550).bind fun t553 => ((impl_fromZero.f k t553).bind fun t556 => (some (t556, true))))) = some (r1, r2) := H
  have A7 := Aside0.mk A70
  clear A70
  replace H := Option.bind_eq_some_iff.mp H
  obtain ⟨t550, A80, H⟩ := H
  replace H : ((impl_plus.f k t541 t550).bind fun t553 => ((impl_fromZero.f k t553).bind fun t556 => (some (t556, true)))) = some (r1, r2) := H
  have A8 := Aside0.mk A80
  clear A80
  replace H := Option.bind_eq_some_iff.mp H
  obtain ⟨t553, A90, H⟩ := H
  replace H : ((impl_fromZero.f k t553).bind fun t556 => (some (t556, true))) = some (r1, r2) := H
  have A9 := Aside0.mk A90
  clear A90
  replace H := Option.bind_eq_some_iff.mp H
  obtain ⟨t556, A100, H⟩ := H
  replace H : (some (t556, true)) = some (r1, r2) := H
  have A10 := Aside0.mk A100
  clear A100
  simp only [Option.some.injEq, Prod.mk.injEq] at H
  obtain ⟨rfl, rfl⟩ := H
  go_enter Try.func21, Try.ntmps21
  go_wp2_with (first | ((with_reducible refine gate_dst (N := 3) rfl ?_); refine box_event ?hg (N := 3) ?hd (cs := #[.int .i64 a0_0, .slice A0_1 l0_1.length c0_1]) (t := 31) ?hr ?_; (case hd => rfl); (case hg => rfl); (case hr => first | (go_simp; done) | (go_simp; rfl)); intro gb536 hg w11 hbox hb; have BK536 := Aside0.mk (hbox); have GW536 := Aside0.mk ((by rw [hg]; exact (below_size (Lz HB)) : w.heap.size ≤ gb536)); have GE536 := Aside0.mk ((by rw [hg]; exact (below_size (Lz HB)) : w.heap.size ≤ gb536)); replace HB := Aside0.mk (below_step (Lz HB) hb); clear hb hbox hg; have hcz12_0 : w11.cell? ⟨gb536, 0, none⟩ = some (.int .i64 a0_0) := (blk_cell BK536.out 0).trans rfl; have hcz12_1 : w11.cell? ⟨gb536, 1, none⟩ = some (.slice A0_1 l0_1.length c0_1) := (blk_cell BK536.out 1).trans rfl; have hfz12_0 := blk_frozen BK536.out 0; have hfz12_1 := blk_frozen BK536.out 1) | ((with_reducible refine gate_callee (f := 45) rfl ?_); refine goesM_ (some 15) rfl rfl Try.func45 (by kernel_rfl) rfl #[.agg #[.int .i64 a0_0, .slice A0_1 l0_1.length c0_1], .slice A1 l1.length c1, .slice A2 l2.length c2] rfl ?_; (with_reducible refine (impl_AreEquivalent.calls k a0_0 _ _ l0_1 _ _ l1 _ _ l2 true _ ?side1 ?side2 ?side3 ?side4 ?side5 ?side6 A4.out).mono ?_); (case side1 => exact Cz ((Kd.C_below HR0_1.out HB.out))); (case side2 => exact HC0_1.out); (case side3 => exact Cz ((Kd.C_below HR1.out HB.out))); (case side4 => exact HC1.out); (case side5 => exact Cz ((Kd.C_below HR2.out HB.out))); (case side6 => exact HC2.out); rintro e w13 ⟨rfl, hb⟩; refine ⟨_, rfl, ?_⟩; replace BK536 := Aside0.mk (blk_below (g := gb536) (o := .cells #[.int .i64 a0_0, .slice A0_1 l0_1.length c0_1] 31 (0, 0)) (Bz BK536) hb); replace HB := Aside0.mk (below_step (by exact Lz1 HB GE536) hb); (try clear hb); (try clear hb2); (try clear hk); (try clear hi); have hcz14_0 : w13.cell? ⟨gb536, 0, none⟩ = some (.int .i64 a0_0) := (blk_cell BK536.out 0).trans rfl; have hcz14_1 : w13.cell? ⟨gb536, 1, none⟩ = some (.slice A0_1 l0_1.length c0_1) := (blk_cell BK536.out 1).trans rfl; have hfz14_0 := blk_frozen BK536.out 0; have hfz14_1 := blk_frozen BK536.out 1) | ((with_reducible refine gate_callee (f := 60) rfl ?_); refine goesM_ (some 20) rfl rfl Try.func60 (by kernel_rfl) rfl #[.agg #[.int .i64 a0_0, .slice A0_1 l0_1.length c0_1], .slice A1 l1.length c1, .int .i64 0] rfl ?_; (with_reducible refine (impl_reduce.calls k a0_0 _ _ l0_1 _ _ l1 0 t538 t541 _ ?side1 ?side2 ?side3 ?side4 A6.out).mono ?_); (case side1 => exact Cz ((Kd.C_below HR0_1.out HB.out))); (case side2 => exact HC0_1.out); (case side3 => exact Cz ((Kd.C_below HR1.out HB.out))); (case side4 => exact HC1.out); rintro e w15 ⟨v539, v542, rfl, ho0, ho1, hb⟩; refine ⟨_, rfl, ?_⟩; have HO540 := Aside0.mk (Kd.R_lower ho0 (below_size (by exact Lz1 HB GE536))); have HO543 := Aside0.mk (Kd.R_lower ho1 (below_size (by exact Lz1 HB GE536))); replace BK536 := Aside0.mk (blk_below (g := gb536) (o := .cells #[.int .i64 a0_0, .slice A0_1 l0_1.length c0_1] 31 (0, 0)) (Bz BK536) hb); replace HB := Aside0.mk (below_step (by exact Lz1 HB GE536) hb); (try clear hb); (try clear ho0); (try clear ho1); have hcz16_0 : w15.cell? ⟨gb536, 0, none⟩ = some (.int .i64 a0_0) := (blk_cell BK536.out 0).trans rfl; have hcz16_1 : w15.cell? ⟨gb536, 1, none⟩ = some (.slice A0_1 l0_1.length c0_1) := (blk_cell BK536.out 1).trans rfl; have hfz16_0 := blk_frozen BK536.out 0; have hfz16_1 := blk_frozen BK536.out 1) | ((with_reducible refine gate_callee (f := 60) rfl ?_); refine goesM_ (some 26) rfl rfl Try.func60 (by kernel_rfl) rfl #[.agg #[.int .i64 a0_0, .slice A0_1 l0_1.length c0_1], .slice A2 l2.length c2, .int .i64 0] rfl ?_; (with_reducible refine (impl_reduce.calls k a0_0 _ _ l0_1 _ _ l2 0 t544 t547 _ ?side1 ?side2 ?side3 ?side4 A7.out).mono ?_); (case side1 => exact Cz ((Kd.C_below HR0_1.out HB.out))); (case side2 => exact HC0_1.out); (case side3 => exact Cz ((Kd.C_below HR2.out HB.out))); (case side4 => exact HC2.out); rintro e w17 ⟨v545, v548, rfl, ho0, ho1, hb⟩; refine ⟨_, rfl, ?_⟩; have HO546 := Aside0.mk (Kd.R_lower (Kd.R_new' (Kd.R_new' ho0 (Kd.R_lt (Rz HO540))) (Kd.R_lt (Rz HO543))) (below_size (by exact Lz1 HB GE536))); have HO549 := Aside0.mk (Kd.R_lower (Kd.R_new' (Kd.R_new' ho1 (Kd.R_lt (Rz HO540))) (Kd.R_lt (Rz HO543))) (below_size (by exact Lz1 HB GE536))); replace HO540 := Aside0.mk (Kd.R_mono (Kd.R_told (Kd.R_told (Kd.R_old (Rz HO540) hb) (Kd.R_base ho0)) (Kd.R_base ho1)) (fun _ h_ => h_.1)); replace HO543 := Aside0.mk (Kd.R_mono (Kd.R_told (Kd.R_told (Kd.R_old (Rz HO543) hb) (Kd.R_base ho0)) (Kd.R_base ho1)) (fun _ h_ => h_.1)); replace BK536 := Aside0.mk (blk_below (g := gb536) (o := .cells #[.int .i64 a0_0, .slice A0_1 l0_1.length c0_1] 31 (0, 0)) (Bz BK536) hb); replace HB := Aside0.mk (below_step (by exact Lz1 HB GE536) hb); (try clear hb); (try clear ho0); (try clear ho1); obtain ⟨Ao18, co18, eo18⟩ := Kd.R_slice HO549.out; subst eo18) | ((with_reducible refine gate_callee (f := 38) rfl ?_); refine goesM_ (some 31) rfl rfl Try.func38 (by kernel_rfl) rfl #[.slice Ao18 t547.length co18] rfl ?_; (with_reducible refine (impl_NegateDivisor.calls k _ _ t547 t550 _ ?side1 ?side2 A8.out).mono ?_); (case side1 => exact Cz ((Kd.R_reads' HO549.out).2.2)); (case side2 => exact (Kd.R_reads' HO549.out).2.1); rintro e w19 ⟨v551, rfl, ho0, hb⟩; refine ⟨_, rfl, ?_⟩; have HO552 := Aside0.mk (Kd.R_lower (Kd.R_new' (Kd.R_new' (Kd.R_new' (Kd.R_new' ho0 (Kd.R_lt (Rz HO540))) (Kd.R_lt (Rz HO543))) (Kd.R_lt (Rz HO546))) (Kd.R_lt (Rz HO549))) (below_size (by exact Lz1 HB GE536))); replace HO540 := Aside0.mk (Kd.R_elder' (Rz HO540) (Kd.R_base ho0) hb); replace HO543 := Aside0.mk (Kd.R_elder' (Rz HO543) (Kd.R_base ho0) hb); replace HO546 := Aside0.mk (Kd.R_elder' (Rz HO546) (Kd.R_base ho0) hb); replace HO549 := Aside0.mk (Kd.R_elder' (Rz HO549) (Kd.R_base ho0) hb); replace BK536 := Aside0.mk (blk_below (g := gb536) (o := .cells #[.int .i64 a0_0, .slice A0_1 l0_1.length c0_1] 31 (0, 0)) (Bz BK536) hb); replace HB := Aside0.mk (below_step (by exact Lz1 HB GE536) hb); (try clear hb); (try clear ho0); obtain ⟨Ao20, co20, eo20⟩ := Kd.R_slice HO543.out; subst eo20; obtain ⟨Ao21, co21, eo21⟩ := Kd.R_slice HO552.out; subst eo21) | ((with_reducible refine gate_callee (f := 65) rfl ?_); refine goesM_ (some 32) rfl rfl Try.func65 (by kernel_rfl) rfl #[.slice Ao20 t541.length co20, .slice Ao21 t550.length co21] rfl ?_; (with_reducible refine (impl_plus.calls k _ _ t541 _ _ t550 t553 _ ?side1 ?side2 ?side3 ?side4 A9.out).mono ?_); (case side1 => exact Cz ((Kd.R_reads' HO543.out).2.2)); (case side2 => exact (Kd.R_reads' HO543.out).2.1); (case side3 => exact Cz ((Kd.R_reads' HO552.out).2.2)); (case side4 => exact (Kd.R_reads' HO552.out).2.1); rintro e w22 ⟨v554, rfl, ho0, hb⟩; refine ⟨_, rfl, ?_⟩; have HO555 := Aside0.mk (Kd.R_lower (Kd.R_new' (Kd.R_new' (Kd.R_new' (Kd.R_new' (Kd.R_new' ho0 (Kd.R_lt (Rz HO540))) (Kd.R_lt (Rz HO543))) (Kd.R_lt (Rz HO546))) (Kd.R_lt (Rz HO549))) (Kd.R_lt (Rz HO552))) (below_size (by exact Lz1 HB GE536))); replace HO540 := Aside0.mk (Kd.R_elder' (Rz HO540) (Kd.R_base ho0) hb); replace HO543 := Aside0.mk (Kd.R_elder' (Rz HO543) (Kd.R_base ho0) hb); replace HO546 := Aside0.mk (Kd.R_elder' (Rz HO546) (Kd.R_base ho0) hb); replace HO549 := Aside0.mk (Kd.R_elder' (Rz HO549) (Kd.R_base ho0) hb); replace HO552 := Aside0.mk (Kd.R_elder' (Rz HO552) (Kd.R_base ho0) hb); replace BK536 := Aside0.mk (blk_below (g := gb536) (o := .cells #[.int .i64 a0_0, .slice A0_1 l0_1.length c0_1] 31 (0, 0)) (Bz BK536) hb); replace HB := Aside0.mk (below_step (by exact Lz1 HB GE536) hb); (try clear hb); (try clear ho0); obtain ⟨Ao23, co23, eo23⟩ := Kd.R_slice HO555.out; subst eo23) | ((with_reducible refine gate_callee (f := 61) rfl ?_); refine goesM_ (some 33) rfl rfl Try.func61 (by kernel_rfl) rfl #[.slice Ao23 t553.length co23] rfl ?_; (with_reducible refine (impl_fromZero.calls k _ _ t553 t556 _ ?side1 ?side2 A10.out).mono ?_); (case side1 => exact Cz ((Kd.R_reads' HO555.out).2.2)); (case side2 => exact (Kd.R_reads' HO555.out).2.1); rintro e w24 ⟨v557, rfl, ho0, hb⟩; refine ⟨_, rfl, ?_⟩; have HO558 := Aside0.mk (Kd.R_lower (Kd.R_new' (Kd.R_new' (Kd.R_new' (Kd.R_new' (Kd.R_new' (Kd.R_new' ho0 (Kd.R_lt (Rz HO540))) (Kd.R_lt (Rz HO543))) (Kd.R_lt (Rz HO546))) (Kd.R_lt (Rz HO549))) (Kd.R_lt (Rz HO552))) (Kd.R_lt (Rz HO555))) (below_size (by exact Lz1 HB GE536))); replace HO540 := Aside0.mk (Kd.R_elder' (Rz HO540) (Kd.R_base ho0) hb); replace HO543 := Aside0.mk (Kd.R_elder' (Rz HO543) (Kd.R_base ho0) hb); replace HO546 := Aside0.mk (Kd.R_elder' (Rz HO546) (Kd.R_base ho0) hb); replace HO549 := Aside0.mk (Kd.R_elder' (Rz HO549) (Kd.R_base ho0) hb); replace HO552 := Aside0.mk (Kd.R_elder' (Rz HO552) (Kd.R_base ho0) hb); replace HO555 := Aside0.mk (Kd.R_elder' (Rz HO555) (Kd.R_base ho0) hb); replace BK536 := Aside0.mk (blk_below (g := gb536) (o := .cells #[.int .i64 a0_0, .slice A0_1 l0_1.length c0_1] 31 (0, 0)) (Bz BK536) hb); replace HB := Aside0.mk (below_step (by exact Lz1 HB GE536) hb); (try clear hb); (try clear ho0)))
  go_ret2
  exact ⟨_, by first | rfl | (simp [errW_none, errW_some] <;> rfl) | (simp [*, errW_none, errW_some] <;> rfl), by (with_reducible repeat (first | apply Kd.R_alloc | apply Kd.R_drewN | apply Kd.R_drew)); exact Kd.R_mono HO558.out (fun _ hk => trivial), by exact Lz1 HB GE536⟩
 replace c5 := Bool.eq_false_iff.mpr c5
 subst c5
 have H1 : (some (([] : List Int), false)) = some (r1, r2) := by rw [if_neg (show ¬ (false = true) by decide)] at H; exact H
 clear H
 have H := H1
 clear H1
 simp only [Option.some.injEq, Prod.mk.injEq] at H
 obtain ⟨rfl, rfl⟩ := H
 go_enter Try.func21, Try.ntmps21
 go_wp2_with (first | ((with_reducible refine gate_dst (N := 3) rfl ?_); refine box_event ?hg (N := 3) ?hd (cs := #[.int .i64 a0_0, .slice A0_1 l0_1.length c0_1]) (t := 31) ?hr ?_; (case hd => rfl); (case hg => rfl); (case hr => first | (go_simp; done) | (go_simp; rfl)); intro gb536 hg w25 hbox hb; have BK536 := Aside0.mk (hbox); have GW536 := Aside0.mk ((by rw [hg]; exact (below_size (Lz HB)) : w.heap.size ≤ gb536)); have GE536 := Aside0.mk ((by rw [hg]; exact (below_size (Lz HB)) : w.heap.size ≤ gb536)); replace HB := Aside0.mk (below_step (Lz HB) hb); clear hb hbox hg; have hcz26_0 : w25.cell? ⟨gb536, 0, none⟩ = some (.int .i64 a0_0) := (blk_cell BK536.out 0).trans rfl; have hcz26_1 : w25.cell? ⟨gb536, 1, none⟩ = some (.slice A0_1 l0_1.length c0_1) := (blk_cell BK536.out 1).trans rfl; have hfz26_0 := blk_frozen BK536.out 0; have hfz26_1 := blk_frozen BK536.out 1) | ((with_reducible refine gate_callee (f := 45) rfl ?_); refine goesM_ (some 15) rfl rfl Try.func45 (by kernel_rfl) rfl #[.agg #[.int .i64 a0_0, .slice A0_1 l0_1.length c0_1], .slice A1 l1.length c1, .slice A2 l2.length c2] rfl ?_; (with_reducible refine (impl_AreEquivalent.calls k a0_0 _ _ l0_1 _ _ l1 _ _ l2 false _ ?side1 ?side2 ?side3 ?side4 ?side5 ?side6 A4.out).mono ?_); (case side1 => exact Cz ((Kd.C_below HR0_1.out HB.out))); (case side2 => exact HC0_1.out); (case side3 => exact Cz ((Kd.C_below HR1.out HB.out))); (case side4 => exact HC1.out); (case side5 => exact Cz ((Kd.C_below HR2.out HB.out))); (case side6 => exact HC2.out); rintro e w27 ⟨rfl, hb⟩; refine ⟨_, rfl, ?_⟩; replace BK536 := Aside0.mk (blk_below (g := gb536) (o := .cells #[.int .i64 a0_0, .slice A0_1 l0_1.length c0_1] 31 (0, 0)) (Bz BK536) hb); replace HB := Aside0.mk (below_step (by exact Lz1 HB GE536) hb); (try clear hb); (try clear hb2); (try clear hk); (try clear hi)))
 go_ret2
 exact ⟨_, by first | rfl | (simp [errW_none, errW_some] <;> rfl) | (simp [*, errW_none, errW_some] <;> rfl), by first | exact Kd.R_nil _ _ _ _ _ | exact Kd.N_nil _ _ _ _ _ | exact Kd.V_nil _ _ _ _ _ | exact Kd.Q_nil _ _ _ _ _ | exact Kd.S_nil _ _ _ _ _, by exact Lz1 HB GE536⟩
def IsS101 (w0 W : World) (g : Nat) (f0 : List Int) (f1 : Int) (f2 : Int) : Prop := ∃ A0 c0, W.heap[g]? = some (.cells #[.slice A0 f0.length c0, .int .i64 f1, .int .i64 f2] 101 (0, 0)) ∧ w0.heap.size ≤ g ∧ Kd.C (Kd.int .u8) w0 A0 f0.length f0
theorem IsS101.grown {w0 W : World} {g : Nat} {f0 : List Int} {f1 : Int} {f2 : Int} {W1 : World} {row : Option Nat} (h : IsS101 w0 W g f0 f1 f2) (hw : W.grownBy W1 row) (hne : some g ≠ row) : IsS101 w0 W1 g f0 f1 f2 := by
 obtain ⟨A0, c0, hb, hg, hr0⟩ := h
 exact ⟨A0, c0, blk_grown hb hw hne, hg, hr0⟩
theorem IsS101.grownF {WF : World} {w0 W : World} {g : Nat} {f0 : List Int} {f1 : Int} {f2 : Int} {W1 : World} {row : Option Nat} (_h0 : IsS101 w0 WF g f0 f1 f2) (h : IsS101 w0 W g f0 f1 f2) (hw : W.grownBy W1 row) (hne : some g ≠ row) : IsS101 w0 W1 g f0 f1 f2 := h.grown hw hne
theorem IsS101.kept {w0 W : World} {g : Nat} {f0 : List Int} {f1 : Int} {f2 : Int} {W1 : World} {S : Nat → Prop} (h : IsS101 w0 W g f0 f1 f2) (hk : Kept W W1 S) (hne : ¬ S g) : IsS101 w0 W1 g f0 f1 f2 := by
 obtain ⟨A0, c0, hb, hg, hr0⟩ := h
 exact ⟨A0, c0, blk_kept hb hk hne, hg, hr0⟩
theorem IsS101.below {w0 W : World} {g : Nat} {f0 : List Int} {f1 : Int} {f2 : Int} {W1 : World} (h : IsS101 w0 W g f0 f1 f2) (hw : Below W.heap.size W W1) : IsS101 w0 W1 g f0 f1 f2 := h.grown (grown_of_below hw none) (by simp)
theorem IsS101.alloc {w0 W : World} {g : Nat} {f0 : List Int} {f1 : Int} {f2 : Int} (h : IsS101 w0 W g f0 f1 f2) (o : Obj) : IsS101 w0 (W.alloc o) g f0 f1 f2 := h.below (below_alloc (Below.refl _ _) o)
theorem IsS101.drewN {w0 W : World} {g : Nat} {f0 : List Int} {f1 : Int} {f2 : Int} (h : IsS101 w0 W g f0 f1 f2) (m : Nat) : IsS101 w0 (W.drewN m) g f0 f1 f2 := h
theorem IsS101.drew {w0 W : World} {g : Nat} {f0 : List Int} {f1 : Int} {f2 : Int} (h : IsS101 w0 W g f0 f1 f2) : IsS101 w0 W.drew g f0 f1 f2 := h
theorem IsS101.at_ {w0 W : World} {g : Nat} {f0 : List Int} {f1 : Int} {f2 : Int} {w' : World} {m : Nat} (hq : W.drewN m = w') (h : IsS101 w0 W g f0 f1 f2) : IsS101 w0 w' g f0 f1 f2 := by subst hq; exact IsS101.drewN h m
theorem IsS101.apart {w0 W : World} {g : Nat} {f0 : List Int} {f1 : Int} {f2 : Int} {α : Type} {d : Kd α} {e : Nat} {base : Nat} {ok : Nat → Prop} {v : Value} {xs : List α} (h : IsS101 w0 W g f0 f1 f2) (ho : d.R e W base ok v xs) (ht : ∀ q, q ∈ e :: d.E → q ≠ 101) : d.R e W base (fun k => ok k ∧ k ≠ g) v xs := by
 obtain ⟨A0, c0, hb, hg, hr0⟩ := h
 exact Kd.R_types ho hb ht
theorem IsS101.own_ne {w0 W : World} {g : Nat} {f0 : List Int} {f1 : Int} {f2 : Int} {α : Type} {d : Kd α} {e : Nat} {base : Nat} {ok : Nat → Prop} {v : Value} {xs : List α} (h : IsS101 w0 W g f0 f1 f2) (ho : d.R e W base ok v xs) (ht : e ≠ 101) : some g ≠ v.ownBlock := by
 obtain ⟨A0, c0, hb, hg, hr0⟩ := h
 exact Kd.R_ne ho hb ht
theorem IsS101.lt {w0 W : World} {g : Nat} {f0 : List Int} {f1 : Int} {f2 : Int} (h : IsS101 w0 W g f0 f1 f2) : g < W.heap.size := by
 obtain ⟨A0, c0, hb, hg, hr0⟩ := h
 exact blk_lt hb
theorem IsS101.ge {w0 W : World} {g : Nat} {f0 : List Int} {f1 : Int} {f2 : Int} (h : IsS101 w0 W g f0 f1 f2) : w0.heap.size ≤ g := by
 obtain ⟨A0, c0, hb, hg, hr0⟩ := h
 exact hg
theorem IsS101.ne_blk {w0 W : World} {g : Nat} {f0 : List Int} {f1 : Int} {f2 : Int} {a : Nat} {cs : Array Value} {t : TypeId} {fr : Nat × Nat} (h : IsS101 w0 W g f0 f1 f2) (hb2 : W.heap[a]? = some (.cells cs t fr)) (ht : t ≠ 101) : g ≠ a := by
 obtain ⟨A0, c0, hb, hg, hr0⟩ := h
 rintro rfl
 rw [hb] at hb2
 injection hb2 with hb2
 injection hb2 with _ ht2
 exact ht ht2.symm
theorem IsS101.far {w0 W : World} {g : Nat} {f0 : List Int} {f1 : Int} {f2 : Int} {p : Addr} (h : IsS101 w0 W g f0 f1 f2) (hne : g ≠ p.block) (u : Value) : IsS101 w0 (W.setCell p u) g f0 f1 f2 := by
 obtain ⟨A0, c0, hb, hg, hr0⟩ := h
 exact ⟨A0, c0, blk_far hb hne u, hg, hr0⟩
theorem cellS101_0 {W : World} {g : Nat} {A0 : Option Addr} {c0 : Nat} {f0 : List Int} {f1 : Int} {f2 : Int} (h : W.heap[g]? = some (.cells #[.slice A0 f0.length c0, .int .i64 f1, .int .i64 f2] 101 (0, 0))) : W.cell? ⟨g, 0, none⟩ = some (.slice A0 f0.length c0) := (blk_cell h 0).trans rfl
theorem cellS101_1 {W : World} {g : Nat} {A0 : Option Addr} {c0 : Nat} {f0 : List Int} {f1 : Int} {f2 : Int} (h : W.heap[g]? = some (.cells #[.slice A0 f0.length c0, .int .i64 f1, .int .i64 f2] 101 (0, 0))) : W.cell? ⟨g, 1, none⟩ = some (.int .i64 f1) := (blk_cell h 1).trans rfl
theorem IsS101.set_1 {w0 W : World} {g : Nat} {f0 : List Int} {f1 : Int} {f2 : Int} (h : IsS101 w0 W g f0 f1 f2) (x : Int) : IsS101 w0 (W.setCell ⟨g, 1, none⟩ (.int .i64 x)) g f0 x f2 := by
 obtain ⟨A0, c0, hb, hg, hr0⟩ := h
 exact ⟨A0, c0, by simpa using blk_set hb 1 (.int .i64 x), hg, hr0⟩
theorem cellS101_2 {W : World} {g : Nat} {A0 : Option Addr} {c0 : Nat} {f0 : List Int} {f1 : Int} {f2 : Int} (h : W.heap[g]? = some (.cells #[.slice A0 f0.length c0, .int .i64 f1, .int .i64 f2] 101 (0, 0))) : W.cell? ⟨g, 2, none⟩ = some (.int .i64 f2) := (blk_cell h 2).trans rfl
theorem IsS101.set_2 {w0 W : World} {g : Nat} {f0 : List Int} {f1 : Int} {f2 : Int} (h : IsS101 w0 W g f0 f1 f2) (x : Int) : IsS101 w0 (W.setCell ⟨g, 2, none⟩ (.int .i64 x)) g f0 f1 x := by
 obtain ⟨A0, c0, hb, hg, hr0⟩ := h
 exact ⟨A0, c0, by simpa using blk_set hb 2 (.int .i64 x), hg, hr0⟩
def spec_l01Byte.f (s0_0 : List Int) (s0_1 : Int) (s0_2 : Int) : Option (Int × Int × Int) := if s0_1 < (s0_0.length : Int) then (if 0 ≤ s0_1 then (some (Go.bits .and .i64 (wrap64 ((Go.bits .and .i64 (Go.bits .xor .i64 ((wrap64 ((wrap64 (s0_2 * 6364136223846793005)) + 1442695040888963407)) / 8589934592) ((wrap64 ((wrap64 (s0_2 * 6364136223846793005)) + 1442695040888963407)) / 35184372088832)) 255) + (wrap64 (rd s0_0 s0_1)))) 255, wrap64 (s0_1 + 1), wrap64 ((wrap64 (s0_2 * 6364136223846793005)) + 1442695040888963407))) else (none)) else (some (Go.bits .and .i64 (Go.bits .xor .i64 ((wrap64 ((wrap64 (s0_2 * 6364136223846793005)) + 1442695040888963407)) / 8589934592) ((wrap64 ((wrap64 (s0_2 * 6364136223846793005)) + 1442695040888963407)) / 35184372088832)) 255, s0_1, wrap64 ((wrap64 (s0_2 * 6364136223846793005)) + 1442695040888963407)))
set_option maxHeartbeats 8000000 in
set_option maxRecDepth 100000 in
theorem spec_l01Byte.calls (g : Nat) (s0_0 : List Int) (s0_1 : Int) (s0_2 : Int) (r1 : Int) (r2 : Int) (r3 : Int) (w0 w : World) (hI : IsS101 w0 w g s0_0 s0_1 s0_2) (hB : Below w0.heap.size w0 w) (h : spec_l01Byte.f s0_0 s0_1 s0_2 = some (r1, r2, r3)) :
  Calls Try.prog 70 #[.pointer (some ⟨g, 0, none⟩)] w fun e w' => e = .returned (.int .i64 r1) ∧ IsS101 w0 w' g s0_0 r2 r3 ∧ Below w0.heap.size w0 w' ∧ KeepBut w w' g none := by
 have HI0 := Aside0.mk hI
 have HK := Aside0.mk (KeepBut.refl w g none)
 have HL := Aside0.mk hB.size
 clear hI
 have HW0 := Aside0.mk hB.size
 have HB := Aside0.mk hB
 clear hB
 have H : (if s0_1 < (s0_0.length : Int) then (if 0 ≤ s0_1 then (some (Go.bits .and .i64 (wrap64 ((Go.bits .and .i64 (Go.bits .xor .i64 ((wrap64 ((wrap64 (s0_2 * 6364136223846793005)) + 1442695040888963407)) / 8589934592) ((wrap64 ((wrap64 (s0_2 * 6364136223846793005)) + 1442695040888963407)) / 35184372088832)) 255) + (wrap64 (rd s0_0 s0_1)))) 255, wrap64 (s0_1 + 1), wrap64 ((wrap64 (s0_2 * 6364136223846793005)) + 1442695040888963407))) else (none)) else (some (Go.bits .and .i64 (Go.bits .xor .i64 ((wrap64 ((wrap64 (s0_2 * 6364136223846793005)) + 1442695040888963407)) / 8589934592) ((wrap64 ((wrap64 (s0_2 * 6364136223846793005)) + 1442695040888963407)) / 35184372088832)) 255, s0_1, wrap64 ((wrap64 (s0_2 * 6364136223846793005)) + 1442695040888963407)))) = some (r1, r2, r3) := h
 clear h
 by_cases c2 : s0_1 < (s0_0.length : Int)
 ·rw [if_pos c2] at H
  have c2b0 : decide (s0_1 < (s0_0.length : Int)) = true := decide_eq_true c2
  clear c2
  by_cases c3 : 0 ≤ s0_1
  ·rw [if_pos c3] at H
   have c3b0 : decide (0 ≤ s0_1) = true := decide_eq_true c3
   clear c3
   simp only [Option.some.injEq, Prod.mk.injEq] at H
   obtain ⟨rfl, rfl, rfl⟩ := H
   obtain ⟨ASz4_0, cSz4_0, HGz4, hgz4, HSz4_0⟩ := HI0.out
   have hcz4_0 := cellS101_0 HGz4
   have hcz4_1 := cellS101_1 HGz4
   have hcz4_2 := cellS101_2 HGz4
   have hfz4_1 := blk_frozen HGz4 1
   have hfz4_2 := blk_frozen HGz4 2
   clear HGz4 hgz4
   have p630 : 0 ≤ (s0_1 : Int) := ofA
   have q630 : s0_1 < (s0_0.length : Int) := ofA
   obtain ⟨ad630, e630, hx630_0⟩ := Kd.at_int HSz4_0 s0_1 p630 q630
   cases e630
   have hn630_0 : ad630.block ≠ g := Nat.ne_of_lt (Nat.lt_of_lt_of_le (by have := World.block_lt_of_cell? _ _ hx630_0; first | rwa [add_block] at this | exact this) (IsS101.ge HI0.out))
   replace hx630_0 := pw_cell_below HB.out hx630_0
   replace hx630_0 := (cell_far (p := ⟨g, 2, none⟩) (by first | (rw [add_block]; exact hn630_0) | (show (Addr.add _ _).block ≠ _; rw [add_block]; exact hn630_0) | exact hn630_0) (.int .i64 (wrap64 ((wrap64 (s0_2 * 6364136223846793005)) + 1442695040888963407)))).trans hx630_0
   (try have hy630_0 := fun (n_ : Nat) => (show (((w.drewN n_).setCell ⟨g, 2, none⟩ (.int .i64 (wrap64 ((wrap64 (s0_2 * 6364136223846793005)) + 1442695040888963407))))).cell? _ = some _ from hx630_0))
   clear hn630_0
   replace p630 := eq_true p630
   replace q630 := eq_true q630
   go_enter Try.func70, Try.ntmps70
   go_wp2
   repeat (go_quiet (fail); try go_wp2)
   go_ret
   exact ⟨by first | rfl | (simp [errW_none, errW_some] <;> rfl) | (simp [*, errW_none, errW_some] <;> rfl), by repeat (first | (with_reducible first | exact HI0.out | apply IsS101.alloc | apply IsS101.drewN | apply IsS101.drew | apply IsS101.set_1 | apply IsS101.set_2) | exact HI0.out), by repeat (first | (with_reducible first | exact HB.out | apply below_alloc | apply pw_below_drewN | apply below_drew1 | refine below_set ?_ (IsS101.ge HI0.out)) | exact HB.out), by repeat (first | (with_reducible first | exact HK.out | apply KeepBut.set_ | apply keep_drewN | apply keep_drew | apply keep_alloc) | exact HK.out)⟩
  rw [if_neg c3] at H
  exact absurd H (by simp)
 rw [if_neg c2] at H
 have c2b0 : decide (s0_1 < (s0_0.length : Int)) = false := decide_eq_false c2
 clear c2
 simp only [Option.some.injEq, Prod.mk.injEq] at H
 obtain ⟨rfl, rfl, rfl⟩ := H
 obtain ⟨ASz5_0, cSz5_0, HGz5, hgz5, HSz5_0⟩ := HI0.out
 have hcz5_0 := cellS101_0 HGz5
 have hcz5_1 := cellS101_1 HGz5
 have hcz5_2 := cellS101_2 HGz5
 have hfz5_1 := blk_frozen HGz5 1
 have hfz5_2 := blk_frozen HGz5 2
 clear HGz5 hgz5
 go_enter Try.func70, Try.ntmps70
 go_wp2
 repeat (go_quiet (fail); try go_wp2)
 go_ret
 exact ⟨by first | rfl | (simp [errW_none, errW_some] <;> rfl) | (simp [*, errW_none, errW_some] <;> rfl), by repeat (first | (with_reducible first | exact HI0.out | apply IsS101.alloc | apply IsS101.drewN | apply IsS101.drew | apply IsS101.set_1 | apply IsS101.set_2) | exact HI0.out), by repeat (first | (with_reducible first | exact HB.out | apply below_alloc | apply pw_below_drewN | apply below_drew1 | refine below_set ?_ (IsS101.ge HI0.out)) | exact HB.out), by repeat (first | (with_reducible first | exact HK.out | apply KeepBut.set_ | apply keep_drewN | apply keep_drew | apply keep_alloc) | exact HK.out)⟩
def spec_l02Vert.f (a0_0 : Int) (l0_1 : List (S67)) (a1 : Int) : Option (Bool) := if a1 ≥ 0 then (some (decide (a1 < a0_0))) else (some false)
set_option maxHeartbeats 8000000 in
set_option maxRecDepth 100000 in
theorem spec_l02Vert.calls (a0_0 : Int) (A0_1 : Option Addr) (c0_1 : Nat) (l0_1 : List (S67)) (a1 : Int) (r : Bool) (w : World) (hr0_1 : Kd.C k67 w A0_1 l0_1.length l0_1) (hc0_1 : l0_1.length ≤ c0_1) (h : spec_l02Vert.f a0_0 l0_1 a1 = some r) :
  Calls Try.prog 131 #[.agg #[.int .i64 a0_0, .slice A0_1 l0_1.length c0_1], .int .i64 a1] w fun e w' => e = .returned (.bool r) ∧ Below w.heap.size w w' := by
 have hu31 := Try.underlying31
 have HR0_1 := Aside0.mk hr0_1
 have HC0_1 := Aside0.mk hc0_1
 clear hr0_1 hc0_1
 have HB := Aside0.mk (Below.refl w.heap.size w)
 have H : (if a1 ≥ 0 then (some (decide (a1 < a0_0))) else (some false)) = some r := h
 clear h
 by_cases c3 : a1 ≥ 0
 ·rw [if_pos c3] at H
  have c3b0 : decide (0 ≤ a1) = true := decide_eq_true c3
  clear c3
  obtain rfl := Option.some.inj H
  go_enter Try.func131, Try.ntmps131
  go_wp2_with (first | ((with_reducible refine gate_dst (N := 2) rfl ?_); refine box_event ?hg (N := 2) ?hd (cs := #[.int .i64 a0_0, .slice A0_1 l0_1.length c0_1]) (t := 31) ?hr ?_; (case hd => rfl); (case hg => rfl); (case hr => first | (go_simp; done) | (go_simp; rfl)); intro gb121 hg w4 hbox hb; have BK121 := Aside0.mk (hbox); have GW121 := Aside0.mk ((by rw [hg]; exact (below_size (Lz HB)) : w.heap.size ≤ gb121)); have GE121 := Aside0.mk ((by rw [hg]; exact (below_size (Lz HB)) : w.heap.size ≤ gb121)); replace HB := Aside0.mk (below_step (Lz HB) hb); clear hb hbox hg; have hcz5_0 : w4.cell? ⟨gb121, 0, none⟩ = some (.int .i64 a0_0) := (blk_cell BK121.out 0).trans rfl; have hcz5_1 : w4.cell? ⟨gb121, 1, none⟩ = some (.slice A0_1 l0_1.length c0_1) := (blk_cell BK121.out 1).trans rfl; have hfz5_0 := blk_frozen BK121.out 0; have hfz5_1 := blk_frozen BK121.out 1))
  go_ret
  exact ⟨by first | rfl | (simp [errW_none, errW_some] <;> rfl) | (simp [*, errW_none, errW_some] <;> rfl), by exact Lz1 HB GE121⟩
 rw [if_neg c3] at H
 have c3b0 : decide (0 ≤ a1) = false := decide_eq_false c3
 clear c3
 obtain rfl := Option.some.inj H
 go_enter Try.func131, Try.ntmps131
 go_wp2_with (first | ((with_reducible refine gate_dst (N := 2) rfl ?_); refine box_event ?hg (N := 2) ?hd (cs := #[.int .i64 a0_0, .slice A0_1 l0_1.length c0_1]) (t := 31) ?hr ?_; (case hd => rfl); (case hg => rfl); (case hr => first | (go_simp; done) | (go_simp; rfl)); intro gb121 hg w6 hbox hb; have BK121 := Aside0.mk (hbox); have GW121 := Aside0.mk ((by rw [hg]; exact (below_size (Lz HB)) : w.heap.size ≤ gb121)); have GE121 := Aside0.mk ((by rw [hg]; exact (below_size (Lz HB)) : w.heap.size ≤ gb121)); replace HB := Aside0.mk (below_step (Lz HB) hb); clear hb hbox hg))
 go_ret
 exact ⟨by first | rfl | (simp [errW_none, errW_some] <;> rfl) | (simp [*, errW_none, errW_some] <;> rfl), by exact Lz1 HB GE121⟩
mutual
def spec_Multiplicity.j0 : Nat → Int → Int → Int → Bool → Int → List (S67) → Option (Int)
 | 0, _, _, _, _, _, _ => none
 | k + 1, x1, x2, x7, x24, x123000, x123001 => if x24 = true then (some 0) else (spec_Multiplicity.l0 k x1 x2 x7 x123001 (x123001.length : Int) 0)
def spec_Multiplicity.l0 : Nat → Int → Int → Int → List (S67) → Int → Int → Option (Int)
 | 0, _, _, _, _, _, _ => none
 | k + 1, x1, x2, x7, x26, x27, x28 => if x28 < x27 then (if 0 ≤ x28 then (if x28 < (x26.length : Int) then (if ((rd_T67 x26 x28).f0) = (mn x1 x2) then (if ((rd_T67 x26 x28).f1) = (mx x1 x2) then (spec_Multiplicity.l0 k x1 x2 (wrap64 (x7 + 1)) x26 x27 (wrap64 (x28 + 1))) else (spec_Multiplicity.l0 k x1 x2 x7 x26 x27 (wrap64 (x28 + 1)))) else (spec_Multiplicity.l0 k x1 x2 x7 x26 x27 (wrap64 (x28 + 1)))) else (none)) else (none)) else (some x7)
end
def spec_Multiplicity.f (k : Nat) (a0_0 : Int) (l0_1 : List (S67)) (a1 : Int) (a2 : Int) : Option (Int) := (spec_l02Vert.f a0_0 l0_1 a1).bind fun t123 => (if t123 = true then ((spec_l02Vert.f a0_0 l0_1 a2).bind fun t124 => (if t124 = true then (spec_Multiplicity.j0 k a1 a2 0 (a1 == a2) a0_0 l0_1) else (spec_Multiplicity.j0 k a1 a2 0 true a0_0 l0_1))) else (spec_Multiplicity.j0 k a1 a2 0 true a0_0 l0_1))
set_option maxHeartbeats 8000000 in
set_option maxRecDepth 100000 in
theorem spec_Multiplicity.calls (k : Nat) (a0_0 : Int) (A0_1 : Option Addr) (c0_1 : Nat) (l0_1 : List (S67)) (a1 : Int) (a2 : Int) (r : Int) (w : World) (hr0_1 : Kd.C k67 w A0_1 l0_1.length l0_1) (hc0_1 : l0_1.length ≤ c0_1) (h : spec_Multiplicity.f k a0_0 l0_1 a1 a2 = some r) :
  Calls Try.prog 115 #[.agg #[.int .i64 a0_0, .slice A0_1 l0_1.length c0_1], .int .i64 a1, .int .i64 a2] w fun e w' => e = .returned (.int .i64 r) ∧ Below w.heap.size w w' := by
 have hu31 := Try.underlying31
 have hu67 := Try.underlying67
 have HR0_1 := Aside0.mk hr0_1
 have HC0_1 := Aside0.mk hc0_1
 clear hr0_1 hc0_1
 have HB := Aside0.mk (Below.refl w.heap.size w)
 have H : ((spec_l02Vert.f a0_0 l0_1 a1).bind fun t123 => (if t123 = true then ((spec_l02Vert.f a0_0 l0_1 a2).bind fun t124 => (if t124 = true then (spec_Multiplicity.j0 k a1 a2 0 (a1 == a2) a0_0 l0_1) else (spec_Multiplicity.j0 k a1 a2 0 true a0_0 l0_1))) else (spec_Multiplicity.j0 k a1 a2 0 true a0_0 l0_1))) = some r := h
 clear h
 have HC4 := Aside0.mk H
 clear H
 go_enter Try.func115, Try.ntmps115
 go_upto_region 2 with (first | ((with_reducible refine gate_dst (N := 3) rfl ?_); (try (refine gate_guard (by rfl) ?_; dsimp only)); refine box_event ?hg (N := 3) ?hd (cs := #[.int .i64 a0_0, .slice A0_1 l0_1.length c0_1]) (t := 31) ?hr ?_; (case hd => rfl); (case hg => rfl); (case hr => first | (go_simp; done) | (go_simp; rfl)); intro gb122 hg w5 hbox hb; have BK122 := Aside0.mk (hbox); have GW122 := Aside0.mk ((by rw [hg]; exact (below_size (Lz HB)) : w.heap.size ≤ gb122)); have GE122 := Aside0.mk ((by rw [hg]; exact (below_size (Lz HB)) : w.heap.size ≤ gb122)); replace HB := Aside0.mk (below_step (Lz HB) hb); clear hb hbox hg))
 (try simp only [Act.put, List.setIfInBounds_toArray, List.set_cons_zero, List.set_cons_succ])
 go_cut [24] (fun v24 wc => ∃ (kq : Nat) (x24_3 : Bool), v24 = .bool x24_3 ∧ Aside0 (spec_Multiplicity.j0 kq a1 a2 0 x24_3 a0_0 l0_1 = some r) ∧ Aside0 (kq ≤ k) ∧ Aside0 (wc.heap[gb122]? = some (.cells #[.int .i64 a0_0, (.slice A0_1 l0_1.length c0_1)] 31 (0, 0))) ∧ Aside0 (Below w.heap.size w wc))
 case first =>
  have H := HC4.out
  clear HC4
  replace H := Option.bind_eq_some_iff.mp H
  obtain ⟨t123, A60, H⟩ := H
  replace H : (if t123 = true then ((spec_l02Vert.f a0_0 l0_1 a2).bind fun t124 => (if t124 = true then (spec_Multiplicity.j0 k a1 a2 0 (a1 == a2) a0_0 l0_1) else (spec_Multiplicity.j0 k a1 a2 0 true a0_0 l0_1))) else (spec_Multiplicity.j0 k a1 a2 0 true a0_0 l0_1)) = some r := H
  have A6 := Aside0.mk A60
  clear A60
  by_cases c7 : t123 = true
  ·subst c7
   have H1 : ((spec_l02Vert.f a0_0 l0_1 a2).bind fun t124 => (if t124 = true then (spec_Multiplicity.j0 k a1 a2 0 (a1 == a2) a0_0 l0_1) else (spec_Multiplicity.j0 k a1 a2 0 true a0_0 l0_1))) = some r := by rw [if_pos rfl] at H; exact H
   clear H
   have H := H1
   clear H1
   replace H := Option.bind_eq_some_iff.mp H
   obtain ⟨t124, A80, H⟩ := H
   replace H : (if t124 = true then (spec_Multiplicity.j0 k a1 a2 0 (a1 == a2) a0_0 l0_1) else (spec_Multiplicity.j0 k a1 a2 0 true a0_0 l0_1)) = some r := H
   have A8 := Aside0.mk A80
   clear A80
   by_cases c9 : t124 = true
   ·subst c9
    have H1 : (spec_Multiplicity.j0 k a1 a2 0 (a1 == a2) a0_0 l0_1) = some r := by rw [if_pos rfl] at H; exact H
    clear H
    have H := H1
    clear H1
    have H' := Aside0.mk H
    clear H
    have hcz10_0 : w5.cell? ⟨gb122, 0, none⟩ = some (.int .i64 a0_0) := (blk_cell BK122.out 0).trans rfl
    have hcz10_1 : w5.cell? ⟨gb122, 1, none⟩ = some (.slice A0_1 l0_1.length c0_1) := (blk_cell BK122.out 1).trans rfl
    have hfz10_0 := blk_frozen BK122.out 0
    have hfz10_1 := blk_frozen BK122.out 1
    go_wp2_with (first | ((with_reducible refine gate_callee (f := 131) rfl ?_); refine goesM_ (some 12) rfl rfl Try.func131 (by kernel_rfl) rfl #[.agg #[.int .i64 a0_0, .slice A0_1 l0_1.length c0_1], .int .i64 a1] rfl ?_; (with_reducible refine (spec_l02Vert.calls a0_0 _ _ l0_1 a1 true _ ?side1 ?side2 A6.out).mono ?_); (case side1 => exact Cz ((Kd.C_below HR0_1.out HB.out))); (case side2 => exact HC0_1.out); rintro e w11 ⟨rfl, hb⟩; refine ⟨_, rfl, ?_⟩; replace BK122 := Aside0.mk (blk_below (g := gb122) (o := .cells #[.int .i64 a0_0, .slice A0_1 l0_1.length c0_1] 31 (0, 0)) (Bz BK122) hb); replace HB := Aside0.mk (below_step (by exact Lz1 HB GE122) hb); (try clear hb); (try clear hb2); (try clear hk); (try clear hi); have hcz12_0 : w11.cell? ⟨gb122, 0, none⟩ = some (.int .i64 a0_0) := (blk_cell BK122.out 0).trans rfl; have hcz12_1 : w11.cell? ⟨gb122, 1, none⟩ = some (.slice A0_1 l0_1.length c0_1) := (blk_cell BK122.out 1).trans rfl; have hfz12_0 := blk_frozen BK122.out 0; have hfz12_1 := blk_frozen BK122.out 1) | (go_at_call 131; (with_reducible refine (spec_l02Vert.calls a0_0 _ _ l0_1 a2 true _ ?side1 ?side2 A8.out).mono ?_); (case side1 => exact Cz ((Kd.C_below HR0_1.out HB.out))); (case side2 => exact HC0_1.out); rintro e w13 ⟨rfl, hb⟩; replace BK122 := Aside0.mk (blk_below (g := gb122) (o := .cells #[.int .i64 a0_0, .slice A0_1 l0_1.length c0_1] 31 (0, 0)) (Bz BK122) hb); replace HB := Aside0.mk (below_step (by exact Lz1 HB GE122) hb); (try clear hb); (try clear hb2); (try clear hk); (try clear hi)))
    go_meet
    case rel => exact ⟨_, ((a1 == a2)), eqA, H', ⟨by first | omega | exact Nat.le_refl _⟩, ⟨by exact Bz BK122⟩, ⟨by exact Lz1 HB GE122⟩⟩
   replace c9 := Bool.eq_false_iff.mpr c9
   subst c9
   have H1 : (spec_Multiplicity.j0 k a1 a2 0 true a0_0 l0_1) = some r := by rw [if_neg (show ¬ (false = true) by decide)] at H; exact H
   clear H
   have H := H1
   clear H1
   have H' := Aside0.mk H
   clear H
   have hcz14_0 : w5.cell? ⟨gb122, 0, none⟩ = some (.int .i64 a0_0) := (blk_cell BK122.out 0).trans rfl
   have hcz14_1 : w5.cell? ⟨gb122, 1, none⟩ = some (.slice A0_1 l0_1.length c0_1) := (blk_cell BK122.out 1).trans rfl
   have hfz14_0 := blk_frozen BK122.out 0
   have hfz14_1 := blk_frozen BK122.out 1
   go_wp2_with (first | ((with_reducible refine gate_callee (f := 131) rfl ?_); refine goesM_ (some 12) rfl rfl Try.func131 (by kernel_rfl) rfl #[.agg #[.int .i64 a0_0, .slice A0_1 l0_1.length c0_1], .int .i64 a1] rfl ?_; (with_reducible refine (spec_l02Vert.calls a0_0 _ _ l0_1 a1 true _ ?side1 ?side2 A6.out).mono ?_); (case side1 => exact Cz ((Kd.C_below HR0_1.out HB.out))); (case side2 => exact HC0_1.out); rintro e w15 ⟨rfl, hb⟩; refine ⟨_, rfl, ?_⟩; replace BK122 := Aside0.mk (blk_below (g := gb122) (o := .cells #[.int .i64 a0_0, .slice A0_1 l0_1.length c0_1] 31 (0, 0)) (Bz BK122) hb); replace HB := Aside0.mk (below_step (by exact Lz1 HB GE122) hb); (try clear hb); (try clear hb2); (try clear hk); (try clear hi); have hcz16_0 : w15.cell? ⟨gb122, 0, none⟩ = some (.int .i64 a0_0) := (blk_cell BK122.out 0).trans rfl; have hcz16_1 : w15.cell? ⟨gb122, 1, none⟩ = some (.slice A0_1 l0_1.length c0_1) := (blk_cell BK122.out 1).trans rfl; have hfz16_0 := blk_frozen BK122.out 0; have hfz16_1 := blk_frozen BK122.out 1) | (go_at_call 131; (with_reducible refine (spec_l02Vert.calls a0_0 _ _ l0_1 a2 false _ ?side1 ?side2 A8.out).mono ?_); (case side1 => exact Cz ((Kd.C_below HR0_1.out HB.out))); (case side2 => exact HC0_1.out); rintro e w17 ⟨rfl, hb⟩; replace BK122 := Aside0.mk (blk_below (g := gb122) (o := .cells #[.int .i64 a0_0, .slice A0_1 l0_1.length c0_1] 31 (0, 0)) (Bz BK122) hb); replace HB := Aside0.mk (below_step (by exact Lz1 HB GE122) hb); (try clear hb); (try clear hb2); (try clear hk); (try clear hi)))
   go_meet
   case rel => exact ⟨_, (true), eqA, H', ⟨by first | omega | exact Nat.le_refl _⟩, ⟨by exact Bz BK122⟩, ⟨by exact Lz1 HB GE122⟩⟩
  replace c7 := Bool.eq_false_iff.mpr c7
  subst c7
  have H1 : (spec_Multiplicity.j0 k a1 a2 0 true a0_0 l0_1) = some r := by rw [if_neg (show ¬ (false = true) by decide)] at H; exact H
  clear H
  have H := H1
  clear H1
  have H' := Aside0.mk H
  clear H
  have hcz18_0 : w5.cell? ⟨gb122, 0, none⟩ = some (.int .i64 a0_0) := (blk_cell BK122.out 0).trans rfl
  have hcz18_1 : w5.cell? ⟨gb122, 1, none⟩ = some (.slice A0_1 l0_1.length c0_1) := (blk_cell BK122.out 1).trans rfl
  have hfz18_0 := blk_frozen BK122.out 0
  have hfz18_1 := blk_frozen BK122.out 1
  go_wp2_with (first | ((with_reducible refine gate_callee (f := 131) rfl ?_); refine goesM_ (some 12) rfl rfl Try.func131 (by kernel_rfl) rfl #[.agg #[.int .i64 a0_0, .slice A0_1 l0_1.length c0_1], .int .i64 a1] rfl ?_; (with_reducible refine (spec_l02Vert.calls a0_0 _ _ l0_1 a1 false _ ?side1 ?side2 A6.out).mono ?_); (case side1 => exact Cz ((Kd.C_below HR0_1.out HB.out))); (case side2 => exact HC0_1.out); rintro e w19 ⟨rfl, hb⟩; refine ⟨_, rfl, ?_⟩; replace BK122 := Aside0.mk (blk_below (g := gb122) (o := .cells #[.int .i64 a0_0, .slice A0_1 l0_1.length c0_1] 31 (0, 0)) (Bz BK122) hb); replace HB := Aside0.mk (below_step (by exact Lz1 HB GE122) hb); (try clear hb); (try clear hb2); (try clear hk); (try clear hi)))
  go_meet
  case rel => exact ⟨_, (true), eqA, H', ⟨by first | omega | exact Nat.le_refl _⟩, ⟨by exact Bz BK122⟩, ⟨by exact Lz1 HB GE122⟩⟩
 case rest =>
  clear HC4
  try clear c7
  try clear c9
  obtain ⟨kq, x24_3, rfl, HA, HJ3, BK122, HB⟩ := hcut
  cases kq with
  | zero => exact absurd HA.out (by simp [spec_Multiplicity.j0])
  | succ kj3 =>
   have H := HA.out
   clear HA
   simp only [spec_Multiplicity.j0] at H
   by_cases c20 : x24_3 = true
   ·subst c20
    have H1 : (some 0) = some r := by rw [if_pos rfl] at H; exact H
    clear H
    have H := H1
    clear H1
    obtain rfl := Option.some.inj H
    go_wp2
    go_ret
    exact ⟨by first | rfl | (simp [errW_none, errW_some] <;> rfl) | (simp [*, errW_none, errW_some] <;> rfl), by exact Lz1 HB GE122⟩
   replace c20 := Bool.eq_false_iff.mpr c20
   subst c20
   have H1 : (spec_Multiplicity.l0 kj3 a1 a2 0 l0_1 (l0_1.length : Int) 0) = some r := by rw [if_neg (show ¬ (false = true) by decide)] at H; exact H
   clear H
   have H := H1
   clear H1
   have H' := Aside0.mk H
   clear H
   have hcz21_0 : wc.cell? ⟨gb122, 0, none⟩ = some (.int .i64 a0_0) := (blk_cell BK122.out 0).trans rfl
   have hcz21_1 : wc.cell? ⟨gb122, 1, none⟩ = some (.slice A0_1 l0_1.length c0_1) := (blk_cell BK122.out 1).trans rfl
   have hfz21_0 := blk_frozen BK122.out 0
   have hfz21_1 := blk_frozen BK122.out 1
   go_wp2
   go_loopg [7, 28] kj3 (fun kq v7 v28 w' => ∃ (x7_2 : Int) (x28_2 : Int), v7 = .int .i64 x7_2 ∧ v28 = .int .i64 x28_2 ∧ Aside0 (spec_Multiplicity.l0 kq a1 a2 x7_2 l0_1 (l0_1.length : Int) x28_2 = some r) ∧ Aside0 (kq ≤ kj3) ∧ Aside0 (w'.heap[gb122]? = some (.cells #[.int .i64 a0_0, (.slice A0_1 l0_1.length c0_1)] 31 (0, 0))) ∧ Aside0 (Below w.heap.size w w'))
   case atStart => exact ⟨(0), (0), eqA, eqA, H', ⟨Nat.le_refl _⟩, ⟨by exact Bz BK122⟩, ⟨by exact Lz1 HB GE122⟩⟩
   case round =>
    clear H'
    try clear c7
    try clear c9
    try clear c20
    obtain ⟨x7_2, x28_2, rfl, rfl, HA, HK2, BK122, HB⟩ := hrel
    cases gk with
    | zero => exact absurd HA.out (by simp [spec_Multiplicity.l0])
    | succ k2 =>
     have H := HA.out
     clear HA
     simp only [spec_Multiplicity.l0] at H
     by_cases c22 : x28_2 < (l0_1.length : Int)
     ·rw [if_pos c22] at H
      have c22b0 : decide (x28_2 < (l0_1.length : Int)) = true := decide_eq_true c22
      clear c22
      by_cases c23 : 0 ≤ x28_2
      ·rw [if_pos c23] at H
       have c23b0 : decide (0 ≤ x28_2) = true := decide_eq_true c23
       clear c23
       by_cases c24 : x28_2 < (l0_1.length : Int)
       ·rw [if_pos c24] at H
        have c24b0 : decide (x28_2 < (l0_1.length : Int)) = true := decide_eq_true c24
        clear c24
        obtain ⟨ji25, hji25⟩ : ∃ j_ : Int, (mn a1 a2) = j_ := ⟨_, rfl⟩
        replace H : (if ((rd_T67 l0_1 x28_2).f0) = (ji25) then (if ((rd_T67 l0_1 x28_2).f1) = (mx a1 a2) then (spec_Multiplicity.l0 k2 a1 a2 (wrap64 (x7_2 + 1)) l0_1 (l0_1.length : Int) (wrap64 (x28_2 + 1))) else (spec_Multiplicity.l0 k2 a1 a2 x7_2 l0_1 (l0_1.length : Int) (wrap64 (x28_2 + 1)))) else (spec_Multiplicity.l0 k2 a1 a2 x7_2 l0_1 (l0_1.length : Int) (wrap64 (x28_2 + 1)))) = some r := by first | (rw [hji25] at H; exact H) | (simp only [hji25] at H ⊢; exact H)
        have hji25_ : (if a2 < a1 then a2 else a1) = ji25 := hji25
        by_cases c26 : ((rd_T67 l0_1 x28_2).f0) = (ji25)
        ·rw [if_pos c26] at H
         have c26b0 : (((rd_T67 l0_1 x28_2).f0) == (ji25)) = true := beq_iff_eq.mpr c26
         have c26b1 : (((rd_T67 l0_1 x28_2).f0) != (ji25)) = false := bne_eq_false_iff_eq.mpr c26
         clear c26
         obtain ⟨ji27, hji27⟩ : ∃ j_ : Int, (mx a1 a2) = j_ := ⟨_, rfl⟩
         replace H : (if ((rd_T67 l0_1 x28_2).f1) = (ji27) then (spec_Multiplicity.l0 k2 a1 a2 (wrap64 (x7_2 + 1)) l0_1 (l0_1.length : Int) (wrap64 (x28_2 + 1))) else (spec_Multiplicity.l0 k2 a1 a2 x7_2 l0_1 (l0_1.length : Int) (wrap64 (x28_2 + 1)))) = some r := by first | (rw [hji27] at H; exact H) | (simp only [hji27] at H ⊢; exact H)
         have hji27_ : (if a1 < a2 then a2 else a1) = ji27 := hji27
         by_cases c28 : ((rd_T67 l0_1 x28_2).f1) = (ji27)
         ·rw [if_pos c28] at H
          have c28b0 : (((rd_T67 l0_1 x28_2).f1) == (ji27)) = true := beq_iff_eq.mpr c28
          have c28b1 : (((rd_T67 l0_1 x28_2).f1) != (ji27)) = false := bne_eq_false_iff_eq.mpr c28
          clear c28
          have H' := Aside0.mk H
          clear H
          have p125 : 0 ≤ (x28_2 : Int) := ofA
          have q125 : x28_2 < (l0_1.length : Int) := ofA
          obtain ⟨ad125, e125, hx125_0, hx125_1⟩ := at_T67 HR0_1.out x28_2 p125 q125
          cases e125
          replace hx125_0 := (HB.out.cell (World.block_lt_of_cell? w _ hx125_0)).trans hx125_0
          replace hx125_1 := (HB.out.cell (World.block_lt_of_cell? w _ hx125_1)).trans hx125_1
          replace p125 := eq_true p125
          replace q125 := eq_true q125
          go_wp2_with (first | ((with_reducible refine gate_dst (N := 9) rfl ?_); (try (refine gate_guard (by rfl) ?_; dsimp only)); refine box_event ?hg (N := 9) ?hd (cs := #[.int .i64 0, .int .i64 0]) (t := 67) ?hr ?_; (case hd => rfl); (case hg => rfl); (case hr => first | (go_simp; done) | (go_simp; rfl)); intro gb126 hg w29 hbox hb; have BK126 := Aside0.mk (hbox); have GW126 := Aside0.mk ((by rw [hg]; exact (below_size (by exact Lz1 HB GE122)) : w.heap.size ≤ gb126)); have GE126 := Aside0.mk ((by rw [hg]; exact (below_size (by exact Lz1 HB GE122)) : w.heap.size ≤ gb126)); replace HB := Aside0.mk (below_step (by exact Lz1 HB GE122) hb); have NB122_126 := Aside0.mk ((by rw [hg]; exact Nat.ne_of_lt (blk_lt (g := gb122) (o := .cells #[.int .i64 a0_0, .slice (some ad125) l0_1.length c0_1] 31 (0, 0)) (Bz BK122)) : gb122 ≠ gb126)); have NB126_122 := Aside0.mk ((by rw [hg]; exact Nat.ne_of_gt (blk_lt (g := gb122) (o := .cells #[.int .i64 a0_0, .slice (some ad125) l0_1.length c0_1] 31 (0, 0)) (Bz BK122)) : gb126 ≠ gb122)); replace BK122 := Aside0.mk (blk_below (g := gb122) (o := .cells #[.int .i64 a0_0, .slice (some ad125) l0_1.length c0_1] 31 (0, 0)) (Bz BK122) hb); clear hb hbox hg; have hnb30 := NB126_122.out; have hnc30 := NB122_126.out; have hcz31_0 : w29.cell? ⟨gb126, 0, none⟩ = some (.int .i64 0) := (blk_cell BK126.out 0).trans rfl; have hcz31_1 : w29.cell? ⟨gb126, 1, none⟩ = some (.int .i64 0) := (blk_cell BK126.out 1).trans rfl; have hfz31_0 := blk_frozen BK126.out 0; have hfz31_1 := blk_frozen BK126.out 1))
          go_roundg k2
          case measure => have := HJ3.out; have := HK2.out; omega
          case rel => exact ⟨(wrap64 (x7_2 + 1)), (wrap64 (x28_2 + 1)), eqA, eqA, H', ⟨by have := HJ3.out; have := HK2.out; omega⟩, ⟨by (with_reducible repeat (first | refine blk_drewN ?_ _ | refine blk_drew ?_ | refine blk_alloc ?_ _)); refine blk_far ?_ NB122_126.out _; (with_reducible repeat (first | refine blk_drewN ?_ _ | refine blk_drew ?_ | refine blk_alloc ?_ _)); refine blk_far ?_ NB122_126.out _; exact Bz BK122⟩, ⟨by exact Lz2 HB GE122 GE126⟩⟩
         rw [if_neg c28] at H
         have c28b0 : (((rd_T67 l0_1 x28_2).f1) == (ji27)) = false := beq_eq_false_iff_ne.mpr c28
         have c28b1 : (((rd_T67 l0_1 x28_2).f1) != (ji27)) = true := bne_iff_ne.mpr c28
         have H' := Aside0.mk H
         clear H
         have p125 : 0 ≤ (x28_2 : Int) := ofA
         have q125 : x28_2 < (l0_1.length : Int) := ofA
         obtain ⟨ad125, e125, hx125_0, hx125_1⟩ := at_T67 HR0_1.out x28_2 p125 q125
         cases e125
         replace hx125_0 := (HB.out.cell (World.block_lt_of_cell? w _ hx125_0)).trans hx125_0
         replace hx125_1 := (HB.out.cell (World.block_lt_of_cell? w _ hx125_1)).trans hx125_1
         replace p125 := eq_true p125
         replace q125 := eq_true q125
         go_wp2_with (first | ((with_reducible refine gate_dst (N := 9) rfl ?_); (try (refine gate_guard (by rfl) ?_; dsimp only)); refine box_event ?hg (N := 9) ?hd (cs := #[.int .i64 0, .int .i64 0]) (t := 67) ?hr ?_; (case hd => rfl); (case hg => rfl); (case hr => first | (go_simp; done) | (go_simp; rfl)); intro gb126 hg w32 hbox hb; have BK126 := Aside0.mk (hbox); have GW126 := Aside0.mk ((by rw [hg]; exact (below_size (by exact Lz1 HB GE122)) : w.heap.size ≤ gb126)); have GE126 := Aside0.mk ((by rw [hg]; exact (below_size (by exact Lz1 HB GE122)) : w.heap.size ≤ gb126)); replace HB := Aside0.mk (below_step (by exact Lz1 HB GE122) hb); have NB122_126 := Aside0.mk ((by rw [hg]; exact Nat.ne_of_lt (blk_lt (g := gb122) (o := .cells #[.int .i64 a0_0, .slice (some ad125) l0_1.length c0_1] 31 (0, 0)) (Bz BK122)) : gb122 ≠ gb126)); have NB126_122 := Aside0.mk ((by rw [hg]; exact Nat.ne_of_gt (blk_lt (g := gb122) (o := .cells #[.int .i64 a0_0, .slice (some ad125) l0_1.length c0_1] 31 (0, 0)) (Bz BK122)) : gb126 ≠ gb122)); replace BK122 := Aside0.mk (blk_below (g := gb122) (o := .cells #[.int .i64 a0_0, .slice (some ad125) l0_1.length c0_1] 31 (0, 0)) (Bz BK122) hb); clear hb hbox hg; have hnb33 := NB126_122.out; have hnc33 := NB122_126.out; have hcz34_0 : w32.cell? ⟨gb126, 0, none⟩ = some (.int .i64 0) := (blk_cell BK126.out 0).trans rfl; have hcz34_1 : w32.cell? ⟨gb126, 1, none⟩ = some (.int .i64 0) := (blk_cell BK126.out 1).trans rfl; have hfz34_0 := blk_frozen BK126.out 0; have hfz34_1 := blk_frozen BK126.out 1))
         go_roundg k2
         case measure => have := HJ3.out; have := HK2.out; omega
         case rel => exact ⟨(x7_2), (wrap64 (x28_2 + 1)), eqA, eqA, H', ⟨by have := HJ3.out; have := HK2.out; omega⟩, ⟨by (with_reducible repeat (first | refine blk_drewN ?_ _ | refine blk_drew ?_ | refine blk_alloc ?_ _)); refine blk_far ?_ NB122_126.out _; (with_reducible repeat (first | refine blk_drewN ?_ _ | refine blk_drew ?_ | refine blk_alloc ?_ _)); refine blk_far ?_ NB122_126.out _; exact Bz BK122⟩, ⟨by exact Lz2 HB GE122 GE126⟩⟩
        rw [if_neg c26] at H
        have c26b0 : (((rd_T67 l0_1 x28_2).f0) == (ji25)) = false := beq_eq_false_iff_ne.mpr c26
        have c26b1 : (((rd_T67 l0_1 x28_2).f0) != (ji25)) = true := bne_iff_ne.mpr c26
        have H' := Aside0.mk H
        clear H
        have p125 : 0 ≤ (x28_2 : Int) := ofA
        have q125 : x28_2 < (l0_1.length : Int) := ofA
        obtain ⟨ad125, e125, hx125_0, hx125_1⟩ := at_T67 HR0_1.out x28_2 p125 q125
        cases e125
        replace hx125_0 := (HB.out.cell (World.block_lt_of_cell? w _ hx125_0)).trans hx125_0
        replace hx125_1 := (HB.out.cell (World.block_lt_of_cell? w _ hx125_1)).trans hx125_1
        replace p125 := eq_true p125
        replace q125 := eq_true q125
        go_wp2_with (first | ((with_reducible refine gate_dst (N := 9) rfl ?_); (try (refine gate_guard (by rfl) ?_; dsimp only)); refine box_event ?hg (N := 9) ?hd (cs := #[.int .i64 0, .int .i64 0]) (t := 67) ?hr ?_; (case hd => rfl); (case hg => rfl); (case hr => first | (go_simp; done) | (go_simp; rfl)); intro gb126 hg w35 hbox hb; have BK126 := Aside0.mk (hbox); have GW126 := Aside0.mk ((by rw [hg]; exact (below_size (by exact Lz1 HB GE122)) : w.heap.size ≤ gb126)); have GE126 := Aside0.mk ((by rw [hg]; exact (below_size (by exact Lz1 HB GE122)) : w.heap.size ≤ gb126)); replace HB := Aside0.mk (below_step (by exact Lz1 HB GE122) hb); have NB122_126 := Aside0.mk ((by rw [hg]; exact Nat.ne_of_lt (blk_lt (g := gb122) (o := .cells #[.int .i64 a0_0, .slice (some ad125) l0_1.length c0_1] 31 (0, 0)) (Bz BK122)) : gb122 ≠ gb126)); have NB126_122 := Aside0.mk ((by rw [hg]; exact Nat.ne_of_gt (blk_lt (g := gb122) (o := .cells #[.int .i64 a0_0, .slice (some ad125) l0_1.length c0_1] 31 (0, 0)) (Bz BK122)) : gb126 ≠ gb122)); replace BK122 := Aside0.mk (blk_below (g := gb122) (o := .cells #[.int .i64 a0_0, .slice (some ad125) l0_1.length c0_1] 31 (0, 0)) (Bz BK122) hb); clear hb hbox hg; have hnb36 := NB126_122.out; have hnc36 := NB122_126.out; have hcz37_0 : w35.cell? ⟨gb126, 0, none⟩ = some (.int .i64 0) := (blk_cell BK126.out 0).trans rfl; have hcz37_1 : w35.cell? ⟨gb126, 1, none⟩ = some (.int .i64 0) := (blk_cell BK126.out 1).trans rfl; have hfz37_0 := blk_frozen BK126.out 0; have hfz37_1 := blk_frozen BK126.out 1))
        go_roundg k2
        case measure => have := HJ3.out; have := HK2.out; omega
        case rel => exact ⟨(x7_2), (wrap64 (x28_2 + 1)), eqA, eqA, H', ⟨by have := HJ3.out; have := HK2.out; omega⟩, ⟨by (with_reducible repeat (first | refine blk_drewN ?_ _ | refine blk_drew ?_ | refine blk_alloc ?_ _)); refine blk_far ?_ NB122_126.out _; (with_reducible repeat (first | refine blk_drewN ?_ _ | refine blk_drew ?_ | refine blk_alloc ?_ _)); refine blk_far ?_ NB122_126.out _; exact Bz BK122⟩, ⟨by exact Lz2 HB GE122 GE126⟩⟩
       rw [if_neg c24] at H
       exact absurd H (by simp)
      rw [if_neg c23] at H
      exact absurd H (by simp)
     rw [if_neg c22] at H
     have c22b0 : decide (x28_2 < (l0_1.length : Int)) = false := decide_eq_false c22
     clear c22
     obtain rfl := Option.some.inj H
     go_wp2
     go_ret
     exact ⟨by first | rfl | (simp [errW_none, errW_some] <;> rfl) | (simp [*, errW_none, errW_some] <;> rfl), by exact Lz1 HB GE122⟩
end Go.Proofs.Ytbcfccdoffbncaa.P
end
