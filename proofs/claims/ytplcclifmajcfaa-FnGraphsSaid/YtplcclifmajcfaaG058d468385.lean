/- Functions of the program as plain Lean functions and that the machine's calls answer as they do, the words of the print that these use, lemmas and plain proofs of laws. Put together by a program of this work that leaves out what nothing uses; Lean checks it. -/
import Derived.Test.YtplcclifmajcfaaGace029dd32
section
namespace Go.Proofs.Ytplcclifmajcfaa.P
open Go.RowKit Go.Proofs.YtplcclifmajcfaaW.PrintWords Go.Proofs.YtplcclifmajcfaaW.PrintLast Go.Proofs.YtplcclifmajcfaaW.PrintMore
attribute [local go_sem] max2_int min2_int max_two min_two max_three min_three max_four min_four
set_option linter.unusedVariables false
set_option linter.unusedSimpArgs false
def spec_l02Vert.f (a0_0 : Int) (l0_1 : List (S57)) (a1 : Int) : Option (Bool) := if a1 ≥ 0 then (some (decide (a1 < a0_0))) else (some false)
set_option maxHeartbeats 8000000 in
set_option maxRecDepth 100000 in
theorem spec_l02Vert.calls (a0_0 : Int) (A0_1 : Option Addr) (c0_1 : Nat) (l0_1 : List (S57)) (a1 : Int) (r : Bool) (w : World) (hr0_1 : Kd.C k57 w A0_1 l0_1.length l0_1) (hc0_1 : l0_1.length ≤ c0_1) (h : spec_l02Vert.f a0_0 l0_1 a1 = some r) :
  Calls Try.prog 82 #[.agg #[.int .i64 a0_0, .slice A0_1 l0_1.length c0_1], .int .i64 a1] w fun e w' => e = .returned (.bool r) ∧ Below w.heap.size w w' := by
 have hu30 := Try.underlying30
 have HR0_1 := Aside0.mk hr0_1
 have HC0_1 := Aside0.mk hc0_1
 clear hr0_1 hc0_1
 have HB := Aside0.mk (Below.refl w.heap.size w)
 have H : (if a1 ≥ 0 then (some (decide (a1 < a0_0))) else (some false)) = some r := h
 clear h
 by_cases c3 : a1 ≥ 0
 ·rw [if_pos c3] at H
  have c3b0 : decide (0 ≤ a1) = true := decide_eq_true c3
  clear c3
  obtain rfl := Option.some.inj H
  go_enter Try.func82, Try.ntmps82
  go_wp2_with (first | ((with_reducible refine gate_dst (N := 2) rfl ?_); refine box_event ?hg (N := 2) ?hd (cs := #[.int .i64 a0_0, .slice A0_1 l0_1.length c0_1]) (t := 30) ?hr ?_; (case hd => rfl); (case hg => rfl); (case hr => first | (go_simp; done) | (go_simp; rfl)); intro gb264 hg w4 hbox hb; have BK264 := Aside0.mk (hbox); have GW264 := Aside0.mk ((by rw [hg]; exact (below_size (Lz HB)) : w.heap.size ≤ gb264)); have GE264 := Aside0.mk ((by rw [hg]; exact (below_size (Lz HB)) : w.heap.size ≤ gb264)); replace HB := Aside0.mk (below_step (Lz HB) hb); clear hb hbox hg; have hcz5_0 : w4.cell? ⟨gb264, 0, none⟩ = some (.int .i64 a0_0) := (blk_cell BK264.out 0).trans rfl; have hcz5_1 : w4.cell? ⟨gb264, 1, none⟩ = some (.slice A0_1 l0_1.length c0_1) := (blk_cell BK264.out 1).trans rfl; have hfz5_0 := blk_frozen BK264.out 0; have hfz5_1 := blk_frozen BK264.out 1))
  go_ret
  exact ⟨by first | rfl | (simp [errW_none, errW_some] <;> rfl) | (simp [*, errW_none, errW_some] <;> rfl), by exact Lz1 HB GE264⟩
 rw [if_neg c3] at H
 have c3b0 : decide (0 ≤ a1) = false := decide_eq_false c3
 clear c3
 obtain rfl := Option.some.inj H
 go_enter Try.func82, Try.ntmps82
 go_wp2_with (first | ((with_reducible refine gate_dst (N := 2) rfl ?_); refine box_event ?hg (N := 2) ?hd (cs := #[.int .i64 a0_0, .slice A0_1 l0_1.length c0_1]) (t := 30) ?hr ?_; (case hd => rfl); (case hg => rfl); (case hr => first | (go_simp; done) | (go_simp; rfl)); intro gb264 hg w6 hbox hb; have BK264 := Aside0.mk (hbox); have GW264 := Aside0.mk ((by rw [hg]; exact (below_size (Lz HB)) : w.heap.size ≤ gb264)); have GE264 := Aside0.mk ((by rw [hg]; exact (below_size (Lz HB)) : w.heap.size ≤ gb264)); replace HB := Aside0.mk (below_step (Lz HB) hb); clear hb hbox hg))
 go_ret
 exact ⟨by first | rfl | (simp [errW_none, errW_some] <;> rfl) | (simp [*, errW_none, errW_some] <;> rfl), by exact Lz1 HB GE264⟩
mutual
def spec_Multiplicity.j0 : Nat → Int → Int → Int → Bool → Int → List (S57) → Option (Int)
 | 0, _, _, _, _, _, _ => none
 | k + 1, x1, x2, x7, x24, x270000, x270001 => if x24 = true then (some 0) else (spec_Multiplicity.l0 k x1 x2 x7 x270001 (x270001.length : Int) 0)
def spec_Multiplicity.l0 : Nat → Int → Int → Int → List (S57) → Int → Int → Option (Int)
 | 0, _, _, _, _, _, _ => none
 | k + 1, x1, x2, x7, x26, x27, x28 => if x28 < x27 then (if 0 ≤ x28 then (if x28 < (x26.length : Int) then (if ((rd_T57 x26 x28).f0) = (mn x1 x2) then (if ((rd_T57 x26 x28).f1) = (mx x1 x2) then (spec_Multiplicity.l0 k x1 x2 (wrap64 (x7 + 1)) x26 x27 (wrap64 (x28 + 1))) else (spec_Multiplicity.l0 k x1 x2 x7 x26 x27 (wrap64 (x28 + 1)))) else (spec_Multiplicity.l0 k x1 x2 x7 x26 x27 (wrap64 (x28 + 1)))) else (none)) else (none)) else (some x7)
end
def spec_Multiplicity.f (k : Nat) (a0_0 : Int) (l0_1 : List (S57)) (a1 : Int) (a2 : Int) : Option (Int) := (spec_l02Vert.f a0_0 l0_1 a1).bind fun t270 => (if t270 = true then ((spec_l02Vert.f a0_0 l0_1 a2).bind fun t271 => (if t271 = true then (spec_Multiplicity.j0 k a1 a2 0 (a1 == a2) a0_0 l0_1) else (spec_Multiplicity.j0 k a1 a2 0 true a0_0 l0_1))) else (spec_Multiplicity.j0 k a1 a2 0 true a0_0 l0_1))
set_option maxHeartbeats 8000000 in
set_option maxRecDepth 100000 in
theorem spec_Multiplicity.calls (k : Nat) (a0_0 : Int) (A0_1 : Option Addr) (c0_1 : Nat) (l0_1 : List (S57)) (a1 : Int) (a2 : Int) (r : Int) (w : World) (hr0_1 : Kd.C k57 w A0_1 l0_1.length l0_1) (hc0_1 : l0_1.length ≤ c0_1) (h : spec_Multiplicity.f k a0_0 l0_1 a1 a2 = some r) :
  Calls Try.prog 49 #[.agg #[.int .i64 a0_0, .slice A0_1 l0_1.length c0_1], .int .i64 a1, .int .i64 a2] w fun e w' => e = .returned (.int .i64 r) ∧ Below w.heap.size w w' := by
 have hu30 := Try.underlying30
 have hu57 := Try.underlying57
 have HR0_1 := Aside0.mk hr0_1
 have HC0_1 := Aside0.mk hc0_1
 clear hr0_1 hc0_1
 have HB := Aside0.mk (Below.refl w.heap.size w)
 have H : ((spec_l02Vert.f a0_0 l0_1 a1).bind fun t270 => (if t270 = true then ((spec_l02Vert.f a0_0 l0_1 a2).bind fun t271 => (if t271 = true then (spec_Multiplicity.j0 k a1 a2 0 (a1 == a2) a0_0 l0_1) else (spec_Multiplicity.j0 k a1 a2 0 true a0_0 l0_1))) else (spec_Multiplicity.j0 k a1 a2 0 true a0_0 l0_1))) = some r := h
 clear h
 have HC4 := Aside0.mk H
 clear H
 go_enter Try.func49, Try.ntmps49
 go_upto_region 2 with (first | ((with_reducible refine gate_dst (N := 3) rfl ?_); (try (refine gate_guard (by rfl) ?_; dsimp only)); refine box_event ?hg (N := 3) ?hd (cs := #[.int .i64 a0_0, .slice A0_1 l0_1.length c0_1]) (t := 30) ?hr ?_; (case hd => rfl); (case hg => rfl); (case hr => first | (go_simp; done) | (go_simp; rfl)); intro gb269 hg w5 hbox hb; have BK269 := Aside0.mk (hbox); have GW269 := Aside0.mk ((by rw [hg]; exact (below_size (Lz HB)) : w.heap.size ≤ gb269)); have GE269 := Aside0.mk ((by rw [hg]; exact (below_size (Lz HB)) : w.heap.size ≤ gb269)); replace HB := Aside0.mk (below_step (Lz HB) hb); clear hb hbox hg))
 (try simp only [Act.put, List.setIfInBounds_toArray, List.set_cons_zero, List.set_cons_succ])
 go_cut [24] (fun v24 wc => ∃ (kq : Nat) (x24_3 : Bool), v24 = .bool x24_3 ∧ Aside0 (spec_Multiplicity.j0 kq a1 a2 0 x24_3 a0_0 l0_1 = some r) ∧ Aside0 (kq ≤ k) ∧ Aside0 (wc.heap[gb269]? = some (.cells #[.int .i64 a0_0, (.slice A0_1 l0_1.length c0_1)] 30 (0, 0))) ∧ Aside0 (Below w.heap.size w wc))
 case first =>
  have H := HC4.out
  clear HC4
  replace H := Option.bind_eq_some_iff.mp H
  obtain ⟨t270, A60, H⟩ := H
  replace H : (if t270 = true then ((spec_l02Vert.f a0_0 l0_1 a2).bind fun t271 => (if t271 = true then (spec_Multiplicity.j0 k a1 a2 0 (a1 == a2) a0_0 l0_1) else (spec_Multiplicity.j0 k a1 a2 0 true a0_0 l0_1))) else (spec_Multiplicity.j0 k a1 a2 0 true a0_0 l0_1)) = some r := H
  have A6 := Aside0.mk A60
  clear A60
  by_cases c7 : t270 = true
  ·subst c7
   have H1 : ((spec_l02Vert.f a0_0 l0_1 a2).bind fun t271 => (if t271 = true then (spec_Multiplicity.j0 k a1 a2 0 (a1 == a2) a0_0 l0_1) else (spec_Multiplicity.j0 k a1 a2 0 true a0_0 l0_1))) = some r := by rw [if_pos rfl] at H; exact H
   clear H
   have H := H1
   clear H1
   replace H := Option.bind_eq_some_iff.mp H
   obtain ⟨t271, A80, H⟩ := H
   replace H : (if t271 = true then (spec_Multiplicity.j0 k a1 a2 0 (a1 == a2) a0_0 l0_1) else (spec_Multiplicity.j0 k a1 a2 0 true a0_0 l0_1)) = some r := H
   have A8 := Aside0.mk A80
   clear A80
   by_cases c9 : t271 = true
   ·subst c9
    have H1 : (spec_Multiplicity.j0 k a1 a2 0 (a1 == a2) a0_0 l0_1) = some r := by rw [if_pos rfl] at H; exact H
    clear H
    have H := H1
    clear H1
    have H' := Aside0.mk H
    clear H
    have hcz10_0 : w5.cell? ⟨gb269, 0, none⟩ = some (.int .i64 a0_0) := (blk_cell BK269.out 0).trans rfl
    have hcz10_1 : w5.cell? ⟨gb269, 1, none⟩ = some (.slice A0_1 l0_1.length c0_1) := (blk_cell BK269.out 1).trans rfl
    have hfz10_0 := blk_frozen BK269.out 0
    have hfz10_1 := blk_frozen BK269.out 1
    go_wp2_with (first | ((with_reducible refine gate_callee (f := 82) rfl ?_); refine goesM_ (some 12) rfl rfl Try.func82 (by kernel_rfl) rfl #[.agg #[.int .i64 a0_0, .slice A0_1 l0_1.length c0_1], .int .i64 a1] rfl ?_; (with_reducible refine (spec_l02Vert.calls a0_0 _ _ l0_1 a1 true _ ?side1 ?side2 A6.out).mono ?_); (case side1 => exact Cz ((Kd.C_below HR0_1.out HB.out))); (case side2 => exact HC0_1.out); rintro e w11 ⟨rfl, hb⟩; refine ⟨_, rfl, ?_⟩; replace BK269 := Aside0.mk (blk_below (g := gb269) (o := .cells #[.int .i64 a0_0, .slice A0_1 l0_1.length c0_1] 30 (0, 0)) (Bz BK269) hb); replace HB := Aside0.mk (below_step (by exact Lz1 HB GE269) hb); (try clear hb); (try clear hb2); (try clear hk); (try clear hi); have hcz12_0 : w11.cell? ⟨gb269, 0, none⟩ = some (.int .i64 a0_0) := (blk_cell BK269.out 0).trans rfl; have hcz12_1 : w11.cell? ⟨gb269, 1, none⟩ = some (.slice A0_1 l0_1.length c0_1) := (blk_cell BK269.out 1).trans rfl; have hfz12_0 := blk_frozen BK269.out 0; have hfz12_1 := blk_frozen BK269.out 1) | (go_at_call 82; (with_reducible refine (spec_l02Vert.calls a0_0 _ _ l0_1 a2 true _ ?side1 ?side2 A8.out).mono ?_); (case side1 => exact Cz ((Kd.C_below HR0_1.out HB.out))); (case side2 => exact HC0_1.out); rintro e w13 ⟨rfl, hb⟩; replace BK269 := Aside0.mk (blk_below (g := gb269) (o := .cells #[.int .i64 a0_0, .slice A0_1 l0_1.length c0_1] 30 (0, 0)) (Bz BK269) hb); replace HB := Aside0.mk (below_step (by exact Lz1 HB GE269) hb); (try clear hb); (try clear hb2); (try clear hk); (try clear hi)))
    go_meet
    case rel => exact ⟨_, ((a1 == a2)), eqA, H', ⟨by first | omega | exact Nat.le_refl _⟩, ⟨by exact Bz BK269⟩, ⟨by exact Lz1 HB GE269⟩⟩
   replace c9 := Bool.eq_false_iff.mpr c9
   subst c9
   have H1 : (spec_Multiplicity.j0 k a1 a2 0 true a0_0 l0_1) = some r := by rw [if_neg (show ¬ (false = true) by decide)] at H; exact H
   clear H
   have H := H1
   clear H1
   have H' := Aside0.mk H
   clear H
   have hcz14_0 : w5.cell? ⟨gb269, 0, none⟩ = some (.int .i64 a0_0) := (blk_cell BK269.out 0).trans rfl
   have hcz14_1 : w5.cell? ⟨gb269, 1, none⟩ = some (.slice A0_1 l0_1.length c0_1) := (blk_cell BK269.out 1).trans rfl
   have hfz14_0 := blk_frozen BK269.out 0
   have hfz14_1 := blk_frozen BK269.out 1
   go_wp2_with (first | ((with_reducible refine gate_callee (f := 82) rfl ?_); refine goesM_ (some 12) rfl rfl Try.func82 (by kernel_rfl) rfl #[.agg #[.int .i64 a0_0, .slice A0_1 l0_1.length c0_1], .int .i64 a1] rfl ?_; (with_reducible refine (spec_l02Vert.calls a0_0 _ _ l0_1 a1 true _ ?side1 ?side2 A6.out).mono ?_); (case side1 => exact Cz ((Kd.C_below HR0_1.out HB.out))); (case side2 => exact HC0_1.out); rintro e w15 ⟨rfl, hb⟩; refine ⟨_, rfl, ?_⟩; replace BK269 := Aside0.mk (blk_below (g := gb269) (o := .cells #[.int .i64 a0_0, .slice A0_1 l0_1.length c0_1] 30 (0, 0)) (Bz BK269) hb); replace HB := Aside0.mk (below_step (by exact Lz1 HB GE269) hb); (try clear hb); (try clear hb2); (try clear hk); (try clear hi); have hcz16_0 : w15.cell? ⟨gb269, 0, none⟩ = some (.int .i64 a0_0) := (blk_cell BK269.out 0).trans rfl; have hcz16_1 : w15.cell? ⟨gb269, 1, none⟩ = some (.slice A0_1 l0_1.length c0_1) := (blk_cell BK269.out 1).trans rfl; have hfz16_0 := blk_frozen BK269.out 0; have hfz16_1 := blk_frozen BK269.out 1) | (go_at_call 82; (with_reducible refine (spec_l02Vert.calls a0_0 _ _ l0_1 a2 false _ ?side1 ?side2 A8.out).mono ?_); (case side1 => exact Cz ((Kd.C_below HR0_1.out HB.out))); (case side2 => exact HC0_1.out); rintro e w17 ⟨rfl, hb⟩; replace BK269 := Aside0.mk (blk_below (g := gb269) (o := .cells #[.int .i64 a0_0, .slice A0_1 l0_1.length c0_1] 30 (0, 0)) (Bz BK269) hb); replace HB := Aside0.mk (below_step (by exact Lz1 HB GE269) hb); (try clear hb); (try clear hb2); (try clear hk); (try clear hi)))
   go_meet
   case rel => exact ⟨_, (true), eqA, H', ⟨by first | omega | exact Nat.le_refl _⟩, ⟨by exact Bz BK269⟩, ⟨by exact Lz1 HB GE269⟩⟩
  replace c7 := Bool.eq_false_iff.mpr c7
  subst c7
  have H1 : (spec_Multiplicity.j0 k a1 a2 0 true a0_0 l0_1) = some r := by rw [if_neg (show ¬ (false = true) by decide)] at H; exact H
  clear H
  have H := H1
  clear H1
  have H' := Aside0.mk H
  clear H
  have hcz18_0 : w5.cell? ⟨gb269, 0, none⟩ = some (.int .i64 a0_0) := (blk_cell BK269.out 0).trans rfl
  have hcz18_1 : w5.cell? ⟨gb269, 1, none⟩ = some (.slice A0_1 l0_1.length c0_1) := (blk_cell BK269.out 1).trans rfl
  have hfz18_0 := blk_frozen BK269.out 0
  have hfz18_1 := blk_frozen BK269.out 1
  go_wp2_with (first | ((with_reducible refine gate_callee (f := 82) rfl ?_); refine goesM_ (some 12) rfl rfl Try.func82 (by kernel_rfl) rfl #[.agg #[.int .i64 a0_0, .slice A0_1 l0_1.length c0_1], .int .i64 a1] rfl ?_; (with_reducible refine (spec_l02Vert.calls a0_0 _ _ l0_1 a1 false _ ?side1 ?side2 A6.out).mono ?_); (case side1 => exact Cz ((Kd.C_below HR0_1.out HB.out))); (case side2 => exact HC0_1.out); rintro e w19 ⟨rfl, hb⟩; refine ⟨_, rfl, ?_⟩; replace BK269 := Aside0.mk (blk_below (g := gb269) (o := .cells #[.int .i64 a0_0, .slice A0_1 l0_1.length c0_1] 30 (0, 0)) (Bz BK269) hb); replace HB := Aside0.mk (below_step (by exact Lz1 HB GE269) hb); (try clear hb); (try clear hb2); (try clear hk); (try clear hi)))
  go_meet
  case rel => exact ⟨_, (true), eqA, H', ⟨by first | omega | exact Nat.le_refl _⟩, ⟨by exact Bz BK269⟩, ⟨by exact Lz1 HB GE269⟩⟩
 case rest =>
  clear HC4
  try clear c7
  try clear c9
  obtain ⟨kq, x24_3, rfl, HA, HJ3, BK269, HB⟩ := hcut
  cases kq with
  | zero => exact absurd HA.out (by simp [spec_Multiplicity.j0])
  | succ kj3 =>
   have H := HA.out
   clear HA
   simp only [spec_Multiplicity.j0] at H
   by_cases c20 : x24_3 = true
   ·subst c20
    have H1 : (some 0) = some r := by rw [if_pos rfl] at H; exact H
    clear H
    have H := H1
    clear H1
    obtain rfl := Option.some.inj H
    go_wp2
    go_ret
    exact ⟨by first | rfl | (simp [errW_none, errW_some] <;> rfl) | (simp [*, errW_none, errW_some] <;> rfl), by exact Lz1 HB GE269⟩
   replace c20 := Bool.eq_false_iff.mpr c20
   subst c20
   have H1 : (spec_Multiplicity.l0 kj3 a1 a2 0 l0_1 (l0_1.length : Int) 0) = some r := by rw [if_neg (show ¬ (false = true) by decide)] at H; exact H
   clear H
   have H := H1
   clear H1
   have H' := Aside0.mk H
   clear H
   have hcz21_0 : wc.cell? ⟨gb269, 0, none⟩ = some (.int .i64 a0_0) := (blk_cell BK269.out 0).trans rfl
   have hcz21_1 : wc.cell? ⟨gb269, 1, none⟩ = some (.slice A0_1 l0_1.length c0_1) := (blk_cell BK269.out 1).trans rfl
   have hfz21_0 := blk_frozen BK269.out 0
   have hfz21_1 := blk_frozen BK269.out 1
   go_wp2
   go_loopg [7, 28] kj3 (fun kq v7 v28 w' => ∃ (x7_2 : Int) (x28_2 : Int), v7 = .int .i64 x7_2 ∧ v28 = .int .i64 x28_2 ∧ Aside0 (spec_Multiplicity.l0 kq a1 a2 x7_2 l0_1 (l0_1.length : Int) x28_2 = some r) ∧ Aside0 (kq ≤ kj3) ∧ Aside0 (w'.heap[gb269]? = some (.cells #[.int .i64 a0_0, (.slice A0_1 l0_1.length c0_1)] 30 (0, 0))) ∧ Aside0 (Below w.heap.size w w'))
   case atStart => exact ⟨(0), (0), eqA, eqA, H', ⟨Nat.le_refl _⟩, ⟨by exact Bz BK269⟩, ⟨by exact Lz1 HB GE269⟩⟩
   case round =>
    clear H'
    try clear c7
    try clear c9
    try clear c20
    obtain ⟨x7_2, x28_2, rfl, rfl, HA, HK2, BK269, HB⟩ := hrel
    cases gk with
    | zero => exact absurd HA.out (by simp [spec_Multiplicity.l0])
    | succ k2 =>
     have H := HA.out
     clear HA
     simp only [spec_Multiplicity.l0] at H
     by_cases c22 : x28_2 < (l0_1.length : Int)
     ·rw [if_pos c22] at H
      have c22b0 : decide (x28_2 < (l0_1.length : Int)) = true := decide_eq_true c22
      clear c22
      by_cases c23 : 0 ≤ x28_2
      ·rw [if_pos c23] at H
       have c23b0 : decide (0 ≤ x28_2) = true := decide_eq_true c23
       clear c23
       by_cases c24 : x28_2 < (l0_1.length : Int)
       ·rw [if_pos c24] at H
        have c24b0 : decide (x28_2 < (l0_1.length : Int)) = true := decide_eq_true c24
        clear c24
        obtain ⟨ji25, hji25⟩ : ∃ j_ : Int, (mn a1 a2) = j_ := ⟨_, rfl⟩
        replace H : (if ((rd_T57 l0_1 x28_2).f0) = (ji25) then (if ((rd_T57 l0_1 x28_2).f1) = (mx a1 a2) then (spec_Multiplicity.l0 k2 a1 a2 (wrap64 (x7_2 + 1)) l0_1 (l0_1.length : Int) (wrap64 (x28_2 + 1))) else (spec_Multiplicity.l0 k2 a1 a2 x7_2 l0_1 (l0_1.length : Int) (wrap64 (x28_2 + 1)))) else (spec_Multiplicity.l0 k2 a1 a2 x7_2 l0_1 (l0_1.length : Int) (wrap64 (x28_2 + 1)))) = some r := by first | (rw [hji25] at H; exact H) | (simp only [hji25] at H ⊢; exact H)
        have hji25_ : (if a2 < a1 then a2 else a1) = ji25 := hji25
        by_cases c26 : ((rd_T57 l0_1 x28_2).f0) = (ji25)
        ·rw [if_pos c26] at H
         have c26b0 : (((rd_T57 l0_1 x28_2).f0) == (ji25)) = true := beq_iff_eq.mpr c26
         have c26b1 : (((rd_T57 l0_1 x28_2).f0) != (ji25)) = false := bne_eq_false_iff_eq.mpr c26
         clear c26
         obtain ⟨ji27, hji27⟩ : ∃ j_ : Int, (mx a1 a2) = j_ := ⟨_, rfl⟩
         replace H : (if ((rd_T57 l0_1 x28_2).f1) = (ji27) then (spec_Multiplicity.l0 k2 a1 a2 (wrap64 (x7_2 + 1)) l0_1 (l0_1.length : Int) (wrap64 (x28_2 + 1))) else (spec_Multiplicity.l0 k2 a1 a2 x7_2 l0_1 (l0_1.length : Int) (wrap64 (x28_2 + 1)))) = some r := by first | (rw [hji27] at H; exact H) | (simp only [hji27] at H ⊢; exact H)
         have hji27_ : (if a1 < a2 then a2 else a1) = ji27 := hji27
         by_cases c28 : ((rd_T57 l0_1 x28_2).f1) = (ji27)
         ·rw [if_pos c28] at H
          have c28b0 : (((rd_T57 l0_1 x28_2).f1) == (ji27)) = true := beq_iff_eq.mpr c28
          have c28b1 : (((rd_T57 l0_1 x28_2).f1) != (ji27)) = false := bne_eq_false_iff_eq.mpr c28
          clear c28
          have H' := Aside0.mk H
          clear H
          have p272 : 0 ≤ (x28_2 : Int) := ofA
          have q272 : x28_2 < (l0_1.length : Int) := ofA
          obtain ⟨ad272, e272, hx272_0, hx272_1⟩ := at_T57 HR0_1.out x28_2 p272 q272
          cases e272
          replace hx272_0 := (HB.out.cell (World.block_lt_of_cell? w _ hx272_0)).trans hx272_0
          replace hx272_1 := (HB.out.cell (World.block_lt_of_cell? w _ hx272_1)).trans hx272_1
          replace p272 := eq_true p272
          replace q272 := eq_true q272
          go_wp2_with (first | ((with_reducible refine gate_dst (N := 9) rfl ?_); (try (refine gate_guard (by rfl) ?_; dsimp only)); refine box_event ?hg (N := 9) ?hd (cs := #[.int .i64 0, .int .i64 0]) (t := 57) ?hr ?_; (case hd => rfl); (case hg => rfl); (case hr => first | (go_simp; done) | (go_simp; rfl)); intro gb273 hg w29 hbox hb; have BK273 := Aside0.mk (hbox); have GW273 := Aside0.mk ((by rw [hg]; exact (below_size (by exact Lz1 HB GE269)) : w.heap.size ≤ gb273)); have GE273 := Aside0.mk ((by rw [hg]; exact (below_size (by exact Lz1 HB GE269)) : w.heap.size ≤ gb273)); replace HB := Aside0.mk (below_step (by exact Lz1 HB GE269) hb); have NB269_273 := Aside0.mk ((by rw [hg]; exact Nat.ne_of_lt (blk_lt (g := gb269) (o := .cells #[.int .i64 a0_0, .slice (some ad272) l0_1.length c0_1] 30 (0, 0)) (Bz BK269)) : gb269 ≠ gb273)); have NB273_269 := Aside0.mk ((by rw [hg]; exact Nat.ne_of_gt (blk_lt (g := gb269) (o := .cells #[.int .i64 a0_0, .slice (some ad272) l0_1.length c0_1] 30 (0, 0)) (Bz BK269)) : gb273 ≠ gb269)); replace BK269 := Aside0.mk (blk_below (g := gb269) (o := .cells #[.int .i64 a0_0, .slice (some ad272) l0_1.length c0_1] 30 (0, 0)) (Bz BK269) hb); clear hb hbox hg; have hnb30 := NB273_269.out; have hnc30 := NB269_273.out; have hcz31_0 : w29.cell? ⟨gb273, 0, none⟩ = some (.int .i64 0) := (blk_cell BK273.out 0).trans rfl; have hcz31_1 : w29.cell? ⟨gb273, 1, none⟩ = some (.int .i64 0) := (blk_cell BK273.out 1).trans rfl; have hfz31_0 := blk_frozen BK273.out 0; have hfz31_1 := blk_frozen BK273.out 1))
          go_roundg k2
          case measure => have := HJ3.out; have := HK2.out; omega
          case rel => exact ⟨(wrap64 (x7_2 + 1)), (wrap64 (x28_2 + 1)), eqA, eqA, H', ⟨by have := HJ3.out; have := HK2.out; omega⟩, ⟨by (with_reducible repeat (first | refine blk_drewN ?_ _ | refine blk_drew ?_ | refine blk_alloc ?_ _)); refine blk_far ?_ NB269_273.out _; (with_reducible repeat (first | refine blk_drewN ?_ _ | refine blk_drew ?_ | refine blk_alloc ?_ _)); refine blk_far ?_ NB269_273.out _; exact Bz BK269⟩, ⟨by exact Lz2 HB GE269 GE273⟩⟩
         rw [if_neg c28] at H
         have c28b0 : (((rd_T57 l0_1 x28_2).f1) == (ji27)) = false := beq_eq_false_iff_ne.mpr c28
         have c28b1 : (((rd_T57 l0_1 x28_2).f1) != (ji27)) = true := bne_iff_ne.mpr c28
         have H' := Aside0.mk H
         clear H
         have p272 : 0 ≤ (x28_2 : Int) := ofA
         have q272 : x28_2 < (l0_1.length : Int) := ofA
         obtain ⟨ad272, e272, hx272_0, hx272_1⟩ := at_T57 HR0_1.out x28_2 p272 q272
         cases e272
         replace hx272_0 := (HB.out.cell (World.block_lt_of_cell? w _ hx272_0)).trans hx272_0
         replace hx272_1 := (HB.out.cell (World.block_lt_of_cell? w _ hx272_1)).trans hx272_1
         replace p272 := eq_true p272
         replace q272 := eq_true q272
         go_wp2_with (first | ((with_reducible refine gate_dst (N := 9) rfl ?_); (try (refine gate_guard (by rfl) ?_; dsimp only)); refine box_event ?hg (N := 9) ?hd (cs := #[.int .i64 0, .int .i64 0]) (t := 57) ?hr ?_; (case hd => rfl); (case hg => rfl); (case hr => first | (go_simp; done) | (go_simp; rfl)); intro gb273 hg w32 hbox hb; have BK273 := Aside0.mk (hbox); have GW273 := Aside0.mk ((by rw [hg]; exact (below_size (by exact Lz1 HB GE269)) : w.heap.size ≤ gb273)); have GE273 := Aside0.mk ((by rw [hg]; exact (below_size (by exact Lz1 HB GE269)) : w.heap.size ≤ gb273)); replace HB := Aside0.mk (below_step (by exact Lz1 HB GE269) hb); have NB269_273 := Aside0.mk ((by rw [hg]; exact Nat.ne_of_lt (blk_lt (g := gb269) (o := .cells #[.int .i64 a0_0, .slice (some ad272) l0_1.length c0_1] 30 (0, 0)) (Bz BK269)) : gb269 ≠ gb273)); have NB273_269 := Aside0.mk ((by rw [hg]; exact Nat.ne_of_gt (blk_lt (g := gb269) (o := .cells #[.int .i64 a0_0, .slice (some ad272) l0_1.length c0_1] 30 (0, 0)) (Bz BK269)) : gb273 ≠ gb269)); replace BK269 := Aside0.mk (blk_below (g := gb269) (o := .cells #[.int .i64 a0_0, .slice (some ad272) l0_1.length c0_1] 30 (0, 0)) (Bz BK269) hb); clear hb hbox hg; have hnb33 := NB273_269.out; have hnc33 := NB269_273.out; have hcz34_0 : w32.cell? ⟨gb273, 0, none⟩ = some (.int .i64 0) := (blk_cell BK273.out 0).trans rfl; have hcz34_1 : w32.cell? ⟨gb273, 1, none⟩ = some (.int .i64 0) := (blk_cell BK273.out 1).trans rfl; have hfz34_0 := blk_frozen BK273.out 0; have hfz34_1 := blk_frozen BK273.out 1))
         go_roundg k2
         case measure => have := HJ3.out; have := HK2.out; omega
         case rel => exact ⟨(x7_2), (wrap64 (x28_2 + 1)), eqA, eqA, H', ⟨by have := HJ3.out; have := HK2.out; omega⟩, ⟨by (with_reducible repeat (first | refine blk_drewN ?_ _ | refine blk_drew ?_ | refine blk_alloc ?_ _)); refine blk_far ?_ NB269_273.out _; (with_reducible repeat (first | refine blk_drewN ?_ _ | refine blk_drew ?_ | refine blk_alloc ?_ _)); refine blk_far ?_ NB269_273.out _; exact Bz BK269⟩, ⟨by exact Lz2 HB GE269 GE273⟩⟩
        rw [if_neg c26] at H
        have c26b0 : (((rd_T57 l0_1 x28_2).f0) == (ji25)) = false := beq_eq_false_iff_ne.mpr c26
        have c26b1 : (((rd_T57 l0_1 x28_2).f0) != (ji25)) = true := bne_iff_ne.mpr c26
        have H' := Aside0.mk H
        clear H
        have p272 : 0 ≤ (x28_2 : Int) := ofA
        have q272 : x28_2 < (l0_1.length : Int) := ofA
        obtain ⟨ad272, e272, hx272_0, hx272_1⟩ := at_T57 HR0_1.out x28_2 p272 q272
        cases e272
        replace hx272_0 := (HB.out.cell (World.block_lt_of_cell? w _ hx272_0)).trans hx272_0
        replace hx272_1 := (HB.out.cell (World.block_lt_of_cell? w _ hx272_1)).trans hx272_1
        replace p272 := eq_true p272
        replace q272 := eq_true q272
        go_wp2_with (first | ((with_reducible refine gate_dst (N := 9) rfl ?_); (try (refine gate_guard (by rfl) ?_; dsimp only)); refine box_event ?hg (N := 9) ?hd (cs := #[.int .i64 0, .int .i64 0]) (t := 57) ?hr ?_; (case hd => rfl); (case hg => rfl); (case hr => first | (go_simp; done) | (go_simp; rfl)); intro gb273 hg w35 hbox hb; have BK273 := Aside0.mk (hbox); have GW273 := Aside0.mk ((by rw [hg]; exact (below_size (by exact Lz1 HB GE269)) : w.heap.size ≤ gb273)); have GE273 := Aside0.mk ((by rw [hg]; exact (below_size (by exact Lz1 HB GE269)) : w.heap.size ≤ gb273)); replace HB := Aside0.mk (below_step (by exact Lz1 HB GE269) hb); have NB269_273 := Aside0.mk ((by rw [hg]; exact Nat.ne_of_lt (blk_lt (g := gb269) (o := .cells #[.int .i64 a0_0, .slice (some ad272) l0_1.length c0_1] 30 (0, 0)) (Bz BK269)) : gb269 ≠ gb273)); have NB273_269 := Aside0.mk ((by rw [hg]; exact Nat.ne_of_gt (blk_lt (g := gb269) (o := .cells #[.int .i64 a0_0, .slice (some ad272) l0_1.length c0_1] 30 (0, 0)) (Bz BK269)) : gb273 ≠ gb269)); replace BK269 := Aside0.mk (blk_below (g := gb269) (o := .cells #[.int .i64 a0_0, .slice (some ad272) l0_1.length c0_1] 30 (0, 0)) (Bz BK269) hb); clear hb hbox hg; have hnb36 := NB273_269.out; have hnc36 := NB269_273.out; have hcz37_0 : w35.cell? ⟨gb273, 0, none⟩ = some (.int .i64 0) := (blk_cell BK273.out 0).trans rfl; have hcz37_1 : w35.cell? ⟨gb273, 1, none⟩ = some (.int .i64 0) := (blk_cell BK273.out 1).trans rfl; have hfz37_0 := blk_frozen BK273.out 0; have hfz37_1 := blk_frozen BK273.out 1))
        go_roundg k2
        case measure => have := HJ3.out; have := HK2.out; omega
        case rel => exact ⟨(x7_2), (wrap64 (x28_2 + 1)), eqA, eqA, H', ⟨by have := HJ3.out; have := HK2.out; omega⟩, ⟨by (with_reducible repeat (first | refine blk_drewN ?_ _ | refine blk_drew ?_ | refine blk_alloc ?_ _)); refine blk_far ?_ NB269_273.out _; (with_reducible repeat (first | refine blk_drewN ?_ _ | refine blk_drew ?_ | refine blk_alloc ?_ _)); refine blk_far ?_ NB269_273.out _; exact Bz BK269⟩, ⟨by exact Lz2 HB GE269 GE273⟩⟩
       rw [if_neg c24] at H
       exact absurd H (by simp)
      rw [if_neg c23] at H
      exact absurd H (by simp)
     rw [if_neg c22] at H
     have c22b0 : decide (x28_2 < (l0_1.length : Int)) = false := decide_eq_false c22
     clear c22
     obtain rfl := Option.some.inj H
     go_wp2
     go_ret
     exact ⟨by first | rfl | (simp [errW_none, errW_some] <;> rfl) | (simp [*, errW_none, errW_some] <;> rfl), by exact Lz1 HB GE269⟩
def spec_l01Below.f (s0_0 : List Int) (s0_1 : Int) (s0_2 : Int) (a1 : Int) : Option (Int × Int × Int) := if a1 ≤ 0 then (some (0, s0_1, s0_2)) else (if a1 ≤ 256 then ((spec_l01Byte.f s0_0 s0_1 s0_2).bind fun bt537 => (if a1 = 0 then (none) else (some (Int.tmod bt537.1 a1, bt537.2.1, bt537.2.2)))) else ((spec_l01Byte.f s0_0 s0_1 s0_2).bind fun bt540 => ((spec_l01Byte.f s0_0 bt540.2.1 bt540.2.2).bind fun bt543 => ((spec_l01Byte.f s0_0 bt543.2.1 bt543.2.2).bind fun bt546 => ((spec_l01Byte.f s0_0 bt546.2.1 bt546.2.2).bind fun bt549 => (if a1 = 0 then (none) else (some (Int.tmod (wrap64 ((wrap64 ((wrap64 ((wrap64 (bt540.1 * 16777216)) + (wrap64 (bt543.1 * 65536)))) + (wrap64 (bt546.1 * 256)))) + bt549.1)) a1, bt549.2.1, bt549.2.2))))))))
set_option maxHeartbeats 8000000 in
set_option maxRecDepth 100000 in
theorem spec_l01Below.calls (g : Nat) (s0_0 : List Int) (s0_1 : Int) (s0_2 : Int) (a1 : Int) (r1 : Int) (r2 : Int) (r3 : Int) (w0 w : World) (hI : IsS88 w0 w g s0_0 s0_1 s0_2) (hB : Below w0.heap.size w0 w) (h : spec_l01Below.f s0_0 s0_1 s0_2 a1 = some (r1, r2, r3)) :
  Calls Try.prog 93 #[.pointer (some ⟨g, 0, none⟩), .int .i64 a1] w fun e w' => e = .returned (.int .i64 r1) ∧ IsS88 w0 w' g s0_0 r2 r3 ∧ Below w0.heap.size w0 w' ∧ KeepBut w w' g none := by
 have HI0 := Aside0.mk hI
 have HK := Aside0.mk (KeepBut.refl w g none)
 have HL := Aside0.mk hB.size
 clear hI
 have HW0 := Aside0.mk hB.size
 have HB := Aside0.mk hB
 clear hB
 have H : (if a1 ≤ 0 then (some (0, s0_1, s0_2)) else (if a1 ≤ 256 then ((spec_l01Byte.f s0_0 s0_1 s0_2).bind fun bt537 => (if a1 = 0 then (none) else (some (Int.tmod bt537.1 a1, bt537.2.1, bt537.2.2)))) else ((spec_l01Byte.f s0_0 s0_1 s0_2).bind fun bt540 => ((spec_l01Byte.f s0_0 bt540.2.1 bt540.2.2).bind fun bt543 => ((spec_l01Byte.f s0_0 bt543.2.1 bt543.2.2).bind fun bt546 => ((spec_l01Byte.f s0_0 bt546.2.1 bt546.2.2).bind fun bt549 => (if a1 = 0 then (none) else (some (Int.tmod (wrap64 ((wrap64 ((wrap64 ((wrap64 (bt540.1 * 16777216)) + (wrap64 (bt543.1 * 65536)))) + (wrap64 (bt546.1 * 256)))) + bt549.1)) a1, bt549.2.1, bt549.2.2))))))))) = some (r1, r2, r3) := h
 clear h
 by_cases c3 : a1 ≤ 0
 ·rw [if_pos c3] at H
  have c3b0 : decide (a1 ≤ 0) = true := decide_eq_true c3
  clear c3
  simp only [Option.some.injEq, Prod.mk.injEq] at H
  obtain ⟨rfl, rfl, rfl⟩ := H
  go_enter Try.func93, Try.ntmps93
  go_wp2
  go_ret
  exact ⟨by first | rfl | (simp [errW_none, errW_some] <;> rfl) | (simp [*, errW_none, errW_some] <;> rfl), by repeat (first | (with_reducible first | exact HI0.out | apply IsS88.alloc | apply IsS88.drewN | apply IsS88.drew | apply IsS88.set_1 | apply IsS88.set_2) | exact HI0.out), by repeat (first | (with_reducible first | exact HB.out | apply below_alloc | apply pw_below_drewN | apply below_drew1 | refine below_set ?_ (IsS88.ge HI0.out)) | exact HB.out), by repeat (first | (with_reducible first | exact HK.out | apply KeepBut.set_ | apply keep_drewN | apply keep_drew | apply keep_alloc) | exact HK.out)⟩
 rw [if_neg c3] at H
 have c3b0 : decide (a1 ≤ 0) = false := decide_eq_false c3
 clear c3
 by_cases c4 : a1 ≤ 256
 ·rw [if_pos c4] at H
  have c4b0 : decide (a1 ≤ 256) = true := decide_eq_true c4
  clear c4
  replace H := Option.bind_eq_some_iff.mp H
  obtain ⟨⟨t537, t538, t539⟩, A50, H⟩ := H
  replace H : (if a1 = 0 then (none) else (some (Int.tmod t537 a1, t538, t539))) = some (r1, r2, r3) := H
  have A5 := Aside0.mk A50
  clear A50
  by_cases c6 : a1 = 0
  ·rw [if_pos c6] at H
   exact absurd H (by simp)
  rw [if_neg c6] at H
  have c6b0 : (a1 == 0) = false := beq_eq_false_iff_ne.mpr c6
  have c6b1 : (a1 != 0) = true := bne_iff_ne.mpr c6
  simp only [Option.some.injEq, Prod.mk.injEq] at H
  obtain ⟨rfl, rfl, rfl⟩ := H
  go_enter Try.func93, Try.ntmps93
  go_wp2_with (first | ((with_reducible refine gate_callee (f := 106) rfl ?_); refine goesM_ (some 14) rfl rfl Try.func106 (by kernel_rfl) rfl #[.pointer (some ⟨g, 0, none⟩)] rfl ?_; (with_reducible refine (spec_l01Byte.calls g s0_0 s0_1 s0_2 t537 t538 t539 w0 _ ?side1 ?side2 A5.out).mono ?_); (case side1 => repeat (first | (with_reducible first | exact HI0.out | apply IsS88.alloc | apply IsS88.drewN | apply IsS88.drew | apply IsS88.set_1 | apply IsS88.set_2) | exact HI0.out)); (case side2 => repeat (first | (with_reducible first | exact HB.out | apply below_alloc | apply pw_below_drewN | apply below_drew1 | refine below_set ?_ (IsS88.ge HI0.out)) | exact HB.out)); rintro e w7 ⟨rfl, hi, hb, hk⟩; refine ⟨_, rfl, ?_⟩; replace HK := Aside0.mk (KeepBut.trans (by repeat (first | (with_reducible first | exact HK.out | apply KeepBut.set_ | apply keep_drewN | apply keep_drew | apply keep_alloc) | exact HK.out)) hk (.inl rfl)); replace HB := Aside0.mk (hb); replace HI0 := Aside0.mk (hi); (try clear hb); (try clear hb2); (try clear hk); (try clear hi)))
  go_ret
  exact ⟨by first | rfl | (simp [errW_none, errW_some] <;> rfl) | (simp [*, errW_none, errW_some] <;> rfl), by repeat (first | (with_reducible first | exact HI0.out | apply IsS88.alloc | apply IsS88.drewN | apply IsS88.drew | apply IsS88.set_1 | apply IsS88.set_2) | exact HI0.out), by repeat (first | (with_reducible first | exact HB.out | apply below_alloc | apply pw_below_drewN | apply below_drew1 | refine below_set ?_ (IsS88.ge HI0.out)) | exact HB.out), by repeat (first | (with_reducible first | exact HK.out | apply KeepBut.set_ | apply keep_drewN | apply keep_drew | apply keep_alloc) | exact HK.out)⟩
 rw [if_neg c4] at H
 have c4b0 : decide (a1 ≤ 256) = false := decide_eq_false c4
 clear c4
 replace H := Option.bind_eq_some_iff.mp H
 obtain ⟨⟨t540, t541, t542⟩, A80, H⟩ := H
 replace H : ((spec_l01Byte.f s0_0 t541 t542).bind fun bt543 => ((spec_l01Byte.f s0_0 bt543.2.1 bt543.2.2).bind fun bt546 => ((spec_l01Byte.f s0_0 bt546.2.1 bt546.2.2).bind fun bt549 => (if a1 = 0 then (none) else (some (Int.tmod (wrap64 ((wrap64 ((wrap64 ((wrap64 (t540 * 16777216)) + (wrap64 (bt543.1 * 65536)))) + (wrap64 (bt546.1 * 256)))) + bt549.1)) a1, bt549.2.1, bt549.2.2)))))) = some (r1, r2, r3) := H
 have A8 := Aside0.mk A80
 clear A80
 replace H := Option.bind_eq_some_iff.mp H
 obtain ⟨⟨t543, t544, t545⟩, A90, H⟩ := H
 replace H : ((spec_l01Byte.f s0_0 t544 t545).bind fun bt546 => ((spec_l01Byte.f s0_0 bt546.2.1 bt546.2.2).bind fun bt549 => (if a1 = 0 then (none) else (some (Int.tmod (wrap64 ((wrap64 ((wrap64 ((wrap64 (t540 * 16777216)) + (wrap64 (t543 * 65536)))) + (wrap64 (bt546.1 * 256)))) + bt549.1)) a1, bt549.2.1, bt549.2.2))))) = some (r1, r2, r3) := H
 have A9 := Aside0.mk A90
 clear A90
 replace H := Option.bind_eq_some_iff.mp H
 obtain ⟨⟨t546, t547, t548⟩, A100, H⟩ := H
 replace H : ((spec_l01Byte.f s0_0 t547 t548).bind fun bt549 => (if a1 = 0 then (none) else (some (Int.tmod (wrap64 ((wrap64 ((wrap64 ((wrap64 (t540 * 16777216)) + (wrap64 (t543 * 65536)))) + (wrap64 (t546 * 256)))) + bt549.1)) a1, bt549.2.1, bt549.2.2)))) = some (r1, r2, r3) := H
 have A10 := Aside0.mk A100
 clear A100
 replace H := Option.bind_eq_some_iff.mp H
 obtain ⟨⟨t549, t550, t551⟩, A110, H⟩ := H
 replace H : (if a1 = 0 then (none) else (some (Int.tmod (wrap64 ((wrap64 ((wrap64 ((wrap64 (t540 * 16777216)) + (wrap64 (t543 * 65536)))) + (wrap64 (t546 * 256)))) + t549)) a1, t550, t551))) = some (r1, r2, r3) := H
 have A11 := Aside0.mk A110
 clear A110
 by_cases c12 : a1 = 0
 ·rw [if_pos c12] at H
  exact absurd H (by simp)
 rw [if_neg c12] at H
 have c12b0 : (a1 == 0) = false := beq_eq_false_iff_ne.mpr c12
 have c12b1 : (a1 != 0) = true := bne_iff_ne.mpr c12
 simp only [Option.some.injEq, Prod.mk.injEq] at H
 obtain ⟨rfl, rfl, rfl⟩ := H
 go_enter Try.func93, Try.ntmps93
 go_wp2_with (first | ((with_reducible refine gate_callee (f := 106) rfl ?_); refine goesM_ (some 18) rfl rfl Try.func106 (by kernel_rfl) rfl #[.pointer (some ⟨g, 0, none⟩)] rfl ?_; (with_reducible refine (spec_l01Byte.calls g s0_0 s0_1 s0_2 t540 t541 t542 w0 _ ?side1 ?side2 A8.out).mono ?_); (case side1 => repeat (first | (with_reducible first | exact HI0.out | apply IsS88.alloc | apply IsS88.drewN | apply IsS88.drew | apply IsS88.set_1 | apply IsS88.set_2) | exact HI0.out)); (case side2 => repeat (first | (with_reducible first | exact HB.out | apply below_alloc | apply pw_below_drewN | apply below_drew1 | refine below_set ?_ (IsS88.ge HI0.out)) | exact HB.out)); rintro e w13 ⟨rfl, hi, hb, hk⟩; refine ⟨_, rfl, ?_⟩; replace HK := Aside0.mk (KeepBut.trans (by repeat (first | (with_reducible first | exact HK.out | apply KeepBut.set_ | apply keep_drewN | apply keep_drew | apply keep_alloc) | exact HK.out)) hk (.inl rfl)); replace HB := Aside0.mk (hb); replace HI0 := Aside0.mk (hi); (try clear hb); (try clear hb2); (try clear hk); (try clear hi)) | ((with_reducible refine gate_callee (f := 106) rfl ?_); refine goesM_ (some 20) rfl rfl Try.func106 (by kernel_rfl) rfl #[.pointer (some ⟨g, 0, none⟩)] rfl ?_; (with_reducible refine (spec_l01Byte.calls g s0_0 t541 t542 t543 t544 t545 w0 _ ?side1 ?side2 A9.out).mono ?_); (case side1 => repeat (first | (with_reducible first | exact HI0.out | apply IsS88.alloc | apply IsS88.drewN | apply IsS88.drew | apply IsS88.set_1 | apply IsS88.set_2) | exact HI0.out)); (case side2 => repeat (first | (with_reducible first | exact HB.out | apply below_alloc | apply pw_below_drewN | apply below_drew1 | refine below_set ?_ (IsS88.ge HI0.out)) | exact HB.out)); rintro e w14 ⟨rfl, hi, hb, hk⟩; refine ⟨_, rfl, ?_⟩; replace HK := Aside0.mk (KeepBut.trans (by repeat (first | (with_reducible first | exact HK.out | apply KeepBut.set_ | apply keep_drewN | apply keep_drew | apply keep_alloc) | exact HK.out)) hk (.inl rfl)); replace HB := Aside0.mk (hb); replace HI0 := Aside0.mk (hi); (try clear hb); (try clear hb2); (try clear hk); (try clear hi)) | ((with_reducible refine gate_callee (f := 106) rfl ?_); refine goesM_ (some 22) rfl rfl Try.func106 (by kernel_rfl) rfl #[.pointer (some ⟨g, 0, none⟩)] rfl ?_; (with_reducible refine (spec_l01Byte.calls g s0_0 t544 t545 t546 t547 t548 w0 _ ?side1 ?side2 A10.out).mono ?_); (case side1 => repeat (first | (with_reducible first | exact HI0.out | apply IsS88.alloc | apply IsS88.drewN | apply IsS88.drew | apply IsS88.set_1 | apply IsS88.set_2) | exact HI0.out)); (case side2 => repeat (first | (with_reducible first | exact HB.out | apply below_alloc | apply pw_below_drewN | apply below_drew1 | refine below_set ?_ (IsS88.ge HI0.out)) | exact HB.out)); rintro e w15 ⟨rfl, hi, hb, hk⟩; refine ⟨_, rfl, ?_⟩; replace HK := Aside0.mk (KeepBut.trans (by repeat (first | (with_reducible first | exact HK.out | apply KeepBut.set_ | apply keep_drewN | apply keep_drew | apply keep_alloc) | exact HK.out)) hk (.inl rfl)); replace HB := Aside0.mk (hb); replace HI0 := Aside0.mk (hi); (try clear hb); (try clear hb2); (try clear hk); (try clear hi)) | ((with_reducible refine gate_callee (f := 106) rfl ?_); refine goesM_ (some 24) rfl rfl Try.func106 (by kernel_rfl) rfl #[.pointer (some ⟨g, 0, none⟩)] rfl ?_; (with_reducible refine (spec_l01Byte.calls g s0_0 t547 t548 t549 t550 t551 w0 _ ?side1 ?side2 A11.out).mono ?_); (case side1 => repeat (first | (with_reducible first | exact HI0.out | apply IsS88.alloc | apply IsS88.drewN | apply IsS88.drew | apply IsS88.set_1 | apply IsS88.set_2) | exact HI0.out)); (case side2 => repeat (first | (with_reducible first | exact HB.out | apply below_alloc | apply pw_below_drewN | apply below_drew1 | refine below_set ?_ (IsS88.ge HI0.out)) | exact HB.out)); rintro e w16 ⟨rfl, hi, hb, hk⟩; refine ⟨_, rfl, ?_⟩; replace HK := Aside0.mk (KeepBut.trans (by repeat (first | (with_reducible first | exact HK.out | apply KeepBut.set_ | apply keep_drewN | apply keep_drew | apply keep_alloc) | exact HK.out)) hk (.inl rfl)); replace HB := Aside0.mk (hb); replace HI0 := Aside0.mk (hi); (try clear hb); (try clear hb2); (try clear hk); (try clear hi)))
 go_ret
 exact ⟨by first | rfl | (simp [errW_none, errW_some] <;> rfl) | (simp [*, errW_none, errW_some] <;> rfl), by repeat (first | (with_reducible first | exact HI0.out | apply IsS88.alloc | apply IsS88.drewN | apply IsS88.drew | apply IsS88.set_1 | apply IsS88.set_2) | exact HI0.out), by repeat (first | (with_reducible first | exact HB.out | apply below_alloc | apply pw_below_drewN | apply below_drew1 | refine below_set ?_ (IsS88.ge HI0.out)) | exact HB.out), by repeat (first | (with_reducible first | exact HK.out | apply KeepBut.set_ | apply keep_drewN | apply keep_drew | apply keep_alloc) | exact HK.out)⟩
def spec_l01In.f (a0 : Int) (a1 : Int) (a2 : Int) : Option (Bool) := if a0 ≥ a1 then (some (decide (a0 ≤ a2))) else (some false)
set_option maxHeartbeats 8000000 in
set_option maxRecDepth 100000 in
theorem spec_l01In.calls (a0 : Int) (a1 : Int) (a2 : Int) (r : Bool) (w : World) (h : spec_l01In.f a0 a1 a2 = some r) :
  Calls Try.prog 63 #[.int .i64 a0, .int .i64 a1, .int .i64 a2] w fun e w' => e = .returned (.bool r) ∧ Drawn0 w w' := by
 have H : (if a0 ≥ a1 then (some (decide (a0 ≤ a2))) else (some false)) = some r := h
 clear h
 by_cases c4 : a0 ≥ a1
 ·rw [if_pos c4] at H
  have c4b0 : decide (a1 ≤ a0) = true := decide_eq_true c4
  clear c4
  obtain rfl := Option.some.inj H
  go_enter Try.func63, Try.ntmps63
  go_wp2
  go_ret
  exact ⟨eqA, by repeat (first | exact Drawn0.refl _ | apply Drawn0.step)⟩
 rw [if_neg c4] at H
 have c4b0 : decide (a1 ≤ a0) = false := decide_eq_false c4
 clear c4
 obtain rfl := Option.some.inj H
 go_enter Try.func63, Try.ntmps63
 go_wp2
 go_ret
 exact ⟨eqA, by repeat (first | exact Drawn0.refl _ | apply Drawn0.step)⟩
mutual
def spec_EdgesOk.j0 : Nat → Bool → Int → List (S57) → Option (Bool)
 | 0, _, _, _ => none
 | k + 1, x14, x133000, x133001 => if x14 = true then (some false) else (spec_EdgesOk.l0 k x133001 (x133001.length : Int) 0 x133000 x133001)
def spec_EdgesOk.l0 : Nat → List (S57) → Int → Int → Int → List (S57) → Option (Bool)
 | 0, _, _, _, _, _ => none
 | k + 1, x16, x17, x18, x133000, x133001 => if x18 < x17 then (if 0 ≤ x18 then (if x18 < (x16.length : Int) then ((spec_l01In.f ((rd_T57 x16 x18).f0) 0 (wrap64 (x133000 - 1))).bind fun t136 => (if t136 = true then ((spec_l01In.f ((rd_T57 x16 x18).f1) (wrap64 (((rd_T57 x16 x18).f0) + 1)) (wrap64 (x133000 - 1))).bind fun t137 => (if t137 = true then (spec_EdgesOk.l0 k x16 x17 (wrap64 (x18 + 1)) x133000 x133001) else (some false))) else (some false))) else (none)) else (none)) else (some true)
end
def spec_EdgesOk.f (k : Nat) (a0_0 : Int) (l0_1 : List (S57)) : Option (Bool) := (spec_l01In.f a0_0 1 6).bind fun t133 => (if t133 = true then (spec_EdgesOk.j0 k (decide ((l0_1.length : Int) > 12)) a0_0 l0_1) else (spec_EdgesOk.j0 k true a0_0 l0_1))
set_option maxHeartbeats 8000000 in
set_option maxRecDepth 100000 in
theorem spec_EdgesOk.calls (k : Nat) (a0_0 : Int) (A0_1 : Option Addr) (c0_1 : Nat) (l0_1 : List (S57)) (r : Bool) (w : World) (hr0_1 : Kd.C k57 w A0_1 l0_1.length l0_1) (hc0_1 : l0_1.length ≤ c0_1) (h : spec_EdgesOk.f k a0_0 l0_1 = some r) :
  Calls Try.prog 80 #[.agg #[.int .i64 a0_0, .slice A0_1 l0_1.length c0_1]] w fun e w' => e = .returned (.bool r) ∧ Below w.heap.size w w' := by
 have hu30 := Try.underlying30
 have hu57 := Try.underlying57
 have HR0_1 := Aside0.mk hr0_1
 have HC0_1 := Aside0.mk hc0_1
 clear hr0_1 hc0_1
 have HB := Aside0.mk (Below.refl w.heap.size w)
 have H : ((spec_l01In.f a0_0 1 6).bind fun t133 => (if t133 = true then (spec_EdgesOk.j0 k (decide ((l0_1.length : Int) > 12)) a0_0 l0_1) else (spec_EdgesOk.j0 k true a0_0 l0_1))) = some r := h
 clear h
 have HC2 := Aside0.mk H
 clear H
 go_enter Try.func80, Try.ntmps80
 go_upto_region 1 with (first | ((with_reducible refine gate_dst (N := 1) rfl ?_); (try (refine gate_guard (by rfl) ?_; dsimp only)); refine box_event ?hg (N := 1) ?hd (cs := #[.int .i64 a0_0, .slice A0_1 l0_1.length c0_1]) (t := 30) ?hr ?_; (case hd => rfl); (case hg => rfl); (case hr => first | (go_simp; done) | (go_simp; rfl)); intro gb132 hg w3 hbox hb; have BK132 := Aside0.mk (hbox); have GW132 := Aside0.mk ((by rw [hg]; exact (below_size (Lz HB)) : w.heap.size ≤ gb132)); have GE132 := Aside0.mk ((by rw [hg]; exact (below_size (Lz HB)) : w.heap.size ≤ gb132)); replace HB := Aside0.mk (below_step (Lz HB) hb); clear hb hbox hg))
 (try simp only [Act.put, List.setIfInBounds_toArray, List.set_cons_zero, List.set_cons_succ])
 go_cut [14] (fun v14 wc => ∃ (kq : Nat) (x14_1 : Bool), v14 = .bool x14_1 ∧ Aside0 (spec_EdgesOk.j0 kq x14_1 a0_0 l0_1 = some r) ∧ Aside0 (kq ≤ k) ∧ Aside0 (wc.heap[gb132]? = some (.cells #[.int .i64 a0_0, (.slice A0_1 l0_1.length c0_1)] 30 (0, 0))) ∧ Aside0 (Below w.heap.size w wc))
 case first =>
  have H := HC2.out
  clear HC2
  replace H := Option.bind_eq_some_iff.mp H
  obtain ⟨t133, A40, H⟩ := H
  replace H : (if t133 = true then (spec_EdgesOk.j0 k (decide ((l0_1.length : Int) > 12)) a0_0 l0_1) else (spec_EdgesOk.j0 k true a0_0 l0_1)) = some r := H
  have A4 := Aside0.mk A40
  clear A40
  by_cases c5 : t133 = true
  ·subst c5
   have H1 : (spec_EdgesOk.j0 k (decide ((l0_1.length : Int) > 12)) a0_0 l0_1) = some r := by rw [if_pos rfl] at H; exact H
   clear H
   have H := H1
   clear H1
   have H' := Aside0.mk H
   clear H
   have hcz6_0 : w3.cell? ⟨gb132, 0, none⟩ = some (.int .i64 a0_0) := (blk_cell BK132.out 0).trans rfl
   have hcz6_1 : w3.cell? ⟨gb132, 1, none⟩ = some (.slice A0_1 l0_1.length c0_1) := (blk_cell BK132.out 1).trans rfl
   have hfz6_0 := blk_frozen BK132.out 0
   have hfz6_1 := blk_frozen BK132.out 1
   go_wp2_with (first | ((with_reducible refine gate_callee (f := 63) rfl ?_); refine goesM_ (some 7) rfl rfl Try.func63 (by kernel_rfl) rfl #[.int .i64 a0_0, .int .i64 1, .int .i64 6] rfl ?_; (with_reducible refine (spec_l01In.calls a0_0 1 6 true _ A4.out).mono ?_); rintro e w' ⟨rfl, ⟨nd, rfl⟩⟩; refine ⟨_, rfl, ?_⟩))
   go_meet
   case rel => exact ⟨_, (decide ((l0_1.length : Int) > 12)), eqA, H', ⟨by first | omega | exact Nat.le_refl _⟩, ⟨by exact Bz BK132⟩, ⟨by exact Lz1 HB GE132⟩⟩
  replace c5 := Bool.eq_false_iff.mpr c5
  subst c5
  have H1 : (spec_EdgesOk.j0 k true a0_0 l0_1) = some r := by rw [if_neg (show ¬ (false = true) by decide)] at H; exact H
  clear H
  have H := H1
  clear H1
  have H' := Aside0.mk H
  clear H
  have hcz7_0 : w3.cell? ⟨gb132, 0, none⟩ = some (.int .i64 a0_0) := (blk_cell BK132.out 0).trans rfl
  have hcz7_1 : w3.cell? ⟨gb132, 1, none⟩ = some (.slice A0_1 l0_1.length c0_1) := (blk_cell BK132.out 1).trans rfl
  have hfz7_0 := blk_frozen BK132.out 0
  have hfz7_1 := blk_frozen BK132.out 1
  go_wp2_with (first | ((with_reducible refine gate_callee (f := 63) rfl ?_); refine goesM_ (some 7) rfl rfl Try.func63 (by kernel_rfl) rfl #[.int .i64 a0_0, .int .i64 1, .int .i64 6] rfl ?_; (with_reducible refine (spec_l01In.calls a0_0 1 6 false _ A4.out).mono ?_); rintro e w' ⟨rfl, ⟨nd, rfl⟩⟩; refine ⟨_, rfl, ?_⟩))
  go_meet
  case rel => exact ⟨_, (true), eqA, H', ⟨by first | omega | exact Nat.le_refl _⟩, ⟨by exact Bz BK132⟩, ⟨by exact Lz1 HB GE132⟩⟩
 case rest =>
  clear HC2
  try clear c5
  obtain ⟨kq, x14_1, rfl, HA, HJ1, BK132, HB⟩ := hcut
  cases kq with
  | zero => exact absurd HA.out (by simp [spec_EdgesOk.j0])
  | succ kj1 =>
   have H := HA.out
   clear HA
   simp only [spec_EdgesOk.j0] at H
   by_cases c8 : x14_1 = true
   ·subst c8
    have H1 : (some false) = some r := by rw [if_pos rfl] at H; exact H
    clear H
    have H := H1
    clear H1
    obtain rfl := Option.some.inj H
    go_wp2
    go_ret
    exact ⟨by first | rfl | (simp [errW_none, errW_some] <;> rfl) | (simp [*, errW_none, errW_some] <;> rfl), by exact Lz1 HB GE132⟩
   replace c8 := Bool.eq_false_iff.mpr c8
   subst c8
   have H1 : (spec_EdgesOk.l0 kj1 l0_1 (l0_1.length : Int) 0 a0_0 l0_1) = some r := by rw [if_neg (show ¬ (false = true) by decide)] at H; exact H
   clear H
   have H := H1
   clear H1
   have H' := Aside0.mk H
   clear H
   have hcz9_0 : wc.cell? ⟨gb132, 0, none⟩ = some (.int .i64 a0_0) := (blk_cell BK132.out 0).trans rfl
   have hcz9_1 : wc.cell? ⟨gb132, 1, none⟩ = some (.slice A0_1 l0_1.length c0_1) := (blk_cell BK132.out 1).trans rfl
   have hfz9_0 := blk_frozen BK132.out 0
   have hfz9_1 := blk_frozen BK132.out 1
   go_wp2
   go_loopg [18] kj1 (fun kq v18 w' => ∃ (x18_2 : Int), v18 = .int .i64 x18_2 ∧ Aside0 (spec_EdgesOk.l0 kq l0_1 (l0_1.length : Int) x18_2 a0_0 l0_1 = some r) ∧ Aside0 (kq ≤ kj1) ∧ Aside0 (w'.heap[gb132]? = some (.cells #[.int .i64 a0_0, (.slice A0_1 l0_1.length c0_1)] 30 (0, 0))) ∧ Aside0 (Below w.heap.size w w'))
   case atStart => exact ⟨(0), eqA, H', ⟨Nat.le_refl _⟩, ⟨by exact Bz BK132⟩, ⟨by exact Lz1 HB GE132⟩⟩
   case round =>
    clear H'
    try clear c5
    try clear c8
    obtain ⟨x18_2, rfl, HA, HK2, BK132, HB⟩ := hrel
    cases gk with
    | zero => exact absurd HA.out (by simp [spec_EdgesOk.l0])
    | succ k2 =>
     have H := HA.out
     clear HA
     simp only [spec_EdgesOk.l0] at H
     by_cases c10 : x18_2 < (l0_1.length : Int)
     ·rw [if_pos c10] at H
      have c10b0 : decide (x18_2 < (l0_1.length : Int)) = true := decide_eq_true c10
      clear c10
      by_cases c11 : 0 ≤ x18_2
      ·rw [if_pos c11] at H
       have c11b0 : decide (0 ≤ x18_2) = true := decide_eq_true c11
       clear c11
       by_cases c12 : x18_2 < (l0_1.length : Int)
       ·rw [if_pos c12] at H
        have c12b0 : decide (x18_2 < (l0_1.length : Int)) = true := decide_eq_true c12
        clear c12
        replace H := Option.bind_eq_some_iff.mp H
        obtain ⟨t136, A130, H⟩ := H
        replace H : (if t136 = true then ((spec_l01In.f ((rd_T57 l0_1 x18_2).f1) (wrap64 (((rd_T57 l0_1 x18_2).f0) + 1)) (wrap64 (a0_0 - 1))).bind fun t137 => (if t137 = true then (spec_EdgesOk.l0 k2 l0_1 (l0_1.length : Int) (wrap64 (x18_2 + 1)) a0_0 l0_1) else (some false))) else (some false)) = some r := H
        have A13 := Aside0.mk A130
        clear A130
        by_cases c14 : t136 = true
        ·subst c14
         have H1 : ((spec_l01In.f ((rd_T57 l0_1 x18_2).f1) (wrap64 (((rd_T57 l0_1 x18_2).f0) + 1)) (wrap64 (a0_0 - 1))).bind fun t137 => (if t137 = true then (spec_EdgesOk.l0 k2 l0_1 (l0_1.length : Int) (wrap64 (x18_2 + 1)) a0_0 l0_1) else (some false))) = some r := by rw [if_pos rfl] at H; exact H
         clear H
         have H := H1
         clear H1
         replace H := Option.bind_eq_some_iff.mp H
         obtain ⟨t137, A150, H⟩ := H
         replace H : (if t137 = true then (spec_EdgesOk.l0 k2 l0_1 (l0_1.length : Int) (wrap64 (x18_2 + 1)) a0_0 l0_1) else (some false)) = some r := H
         have A15 := Aside0.mk A150
         clear A150
         by_cases c16 : t137 = true
         ·subst c16
          have H1 : (spec_EdgesOk.l0 k2 l0_1 (l0_1.length : Int) (wrap64 (x18_2 + 1)) a0_0 l0_1) = some r := by rw [if_pos rfl] at H; exact H
          clear H
          have H := H1
          clear H1
          have H' := Aside0.mk H
          clear H
          have p134 : 0 ≤ (x18_2 : Int) := ofA
          have q134 : x18_2 < (l0_1.length : Int) := ofA
          obtain ⟨ad134, e134, hx134_0, hx134_1⟩ := at_T57 HR0_1.out x18_2 p134 q134
          cases e134
          replace hx134_0 := (HB.out.cell (World.block_lt_of_cell? w _ hx134_0)).trans hx134_0
          replace hx134_1 := (HB.out.cell (World.block_lt_of_cell? w _ hx134_1)).trans hx134_1
          replace p134 := eq_true p134
          replace q134 := eq_true q134
          go_wp2_with (first | ((with_reducible refine gate_dst (N := 4) rfl ?_); (try (refine gate_guard (by rfl) ?_; dsimp only)); refine box_event ?hg (N := 4) ?hd (cs := #[.int .i64 0, .int .i64 0]) (t := 57) ?hr ?_; (case hd => rfl); (case hg => rfl); (case hr => first | (go_simp; done) | (go_simp; rfl)); intro gb135 hg w17 hbox hb; have BK135 := Aside0.mk (hbox); have GW135 := Aside0.mk ((by rw [hg]; exact (below_size (by exact Lz1 HB GE132)) : w.heap.size ≤ gb135)); have GE135 := Aside0.mk ((by rw [hg]; exact (below_size (by exact Lz1 HB GE132)) : w.heap.size ≤ gb135)); replace HB := Aside0.mk (below_step (by exact Lz1 HB GE132) hb); have NB132_135 := Aside0.mk ((by rw [hg]; exact Nat.ne_of_lt (blk_lt (g := gb132) (o := .cells #[.int .i64 a0_0, .slice (some ad134) l0_1.length c0_1] 30 (0, 0)) (Bz BK132)) : gb132 ≠ gb135)); have NB135_132 := Aside0.mk ((by rw [hg]; exact Nat.ne_of_gt (blk_lt (g := gb132) (o := .cells #[.int .i64 a0_0, .slice (some ad134) l0_1.length c0_1] 30 (0, 0)) (Bz BK132)) : gb135 ≠ gb132)); replace BK132 := Aside0.mk (blk_below (g := gb132) (o := .cells #[.int .i64 a0_0, .slice (some ad134) l0_1.length c0_1] 30 (0, 0)) (Bz BK132) hb); clear hb hbox hg; have hnb18 := NB135_132.out; have hnc18 := NB132_135.out; have hcz19_0 : w17.cell? ⟨gb135, 0, none⟩ = some (.int .i64 0) := (blk_cell BK135.out 0).trans rfl; have hcz19_1 : w17.cell? ⟨gb135, 1, none⟩ = some (.int .i64 0) := (blk_cell BK135.out 1).trans rfl; have hfz19_0 := blk_frozen BK135.out 0; have hfz19_1 := blk_frozen BK135.out 1; have hcz20_0 : w17.cell? ⟨gb132, 0, none⟩ = some (.int .i64 a0_0) := (blk_cell BK132.out 0).trans rfl; have hcz20_1 : w17.cell? ⟨gb132, 1, none⟩ = some (.slice (some ad134) l0_1.length c0_1) := (blk_cell BK132.out 1).trans rfl; have hfz20_0 := blk_frozen BK132.out 0; have hfz20_1 := blk_frozen BK132.out 1) | ((with_reducible refine gate_callee (f := 63) rfl ?_); refine goesM_ (some 27) rfl rfl Try.func63 (by kernel_rfl) rfl #[.int .i64 ((rd_T57 l0_1 x18_2).f0), .int .i64 0, .int .i64 (wrap64 (a0_0 - 1))] rfl ?_; (with_reducible refine (spec_l01In.calls ((rd_T57 l0_1 x18_2).f0) 0 (wrap64 (a0_0 - 1)) true _ A13.out).mono ?_); rintro e w' ⟨rfl, ⟨nd, rfl⟩⟩; refine ⟨_, rfl, ?_⟩) | (go_at_call 63; (with_reducible refine (spec_l01In.calls ((rd_T57 l0_1 x18_2).f1) (wrap64 (((rd_T57 l0_1 x18_2).f0) + 1)) (wrap64 (a0_0 - 1)) true _ A15.out).mono ?_); rintro e w' ⟨rfl, ⟨nd, rfl⟩⟩))
          go_roundg k2
          case measure => have := HJ1.out; have := HK2.out; omega
          case rel => exact ⟨(wrap64 (x18_2 + 1)), eqA, H', ⟨by have := HJ1.out; have := HK2.out; omega⟩, ⟨by (with_reducible repeat (first | refine blk_drewN ?_ _ | refine blk_drew ?_ | refine blk_alloc ?_ _)); refine blk_far ?_ NB132_135.out _; (with_reducible repeat (first | refine blk_drewN ?_ _ | refine blk_drew ?_ | refine blk_alloc ?_ _)); refine blk_far ?_ NB132_135.out _; exact Bz BK132⟩, ⟨by exact Lz2 HB GE132 GE135⟩⟩
         replace c16 := Bool.eq_false_iff.mpr c16
         subst c16
         have H1 : (some false) = some r := by rw [if_neg (show ¬ (false = true) by decide)] at H; exact H
         clear H
         have H := H1
         clear H1
         obtain rfl := Option.some.inj H
         have p134 : 0 ≤ (x18_2 : Int) := ofA
         have q134 : x18_2 < (l0_1.length : Int) := ofA
         obtain ⟨ad134, e134, hx134_0, hx134_1⟩ := at_T57 HR0_1.out x18_2 p134 q134
         cases e134
         replace hx134_0 := (HB.out.cell (World.block_lt_of_cell? w _ hx134_0)).trans hx134_0
         replace hx134_1 := (HB.out.cell (World.block_lt_of_cell? w _ hx134_1)).trans hx134_1
         replace p134 := eq_true p134
         replace q134 := eq_true q134
         go_wp2_with (first | ((with_reducible refine gate_dst (N := 4) rfl ?_); (try (refine gate_guard (by rfl) ?_; dsimp only)); refine box_event ?hg (N := 4) ?hd (cs := #[.int .i64 0, .int .i64 0]) (t := 57) ?hr ?_; (case hd => rfl); (case hg => rfl); (case hr => first | (go_simp; done) | (go_simp; rfl)); intro gb135 hg w21 hbox hb; have BK135 := Aside0.mk (hbox); have GW135 := Aside0.mk ((by rw [hg]; exact (below_size (by exact Lz1 HB GE132)) : w.heap.size ≤ gb135)); have GE135 := Aside0.mk ((by rw [hg]; exact (below_size (by exact Lz1 HB GE132)) : w.heap.size ≤ gb135)); replace HB := Aside0.mk (below_step (by exact Lz1 HB GE132) hb); have NB132_135 := Aside0.mk ((by rw [hg]; exact Nat.ne_of_lt (blk_lt (g := gb132) (o := .cells #[.int .i64 a0_0, .slice (some ad134) l0_1.length c0_1] 30 (0, 0)) (Bz BK132)) : gb132 ≠ gb135)); have NB135_132 := Aside0.mk ((by rw [hg]; exact Nat.ne_of_gt (blk_lt (g := gb132) (o := .cells #[.int .i64 a0_0, .slice (some ad134) l0_1.length c0_1] 30 (0, 0)) (Bz BK132)) : gb135 ≠ gb132)); replace BK132 := Aside0.mk (blk_below (g := gb132) (o := .cells #[.int .i64 a0_0, .slice (some ad134) l0_1.length c0_1] 30 (0, 0)) (Bz BK132) hb); clear hb hbox hg; have hnb22 := NB135_132.out; have hnc22 := NB132_135.out; have hcz23_0 : w21.cell? ⟨gb135, 0, none⟩ = some (.int .i64 0) := (blk_cell BK135.out 0).trans rfl; have hcz23_1 : w21.cell? ⟨gb135, 1, none⟩ = some (.int .i64 0) := (blk_cell BK135.out 1).trans rfl; have hfz23_0 := blk_frozen BK135.out 0; have hfz23_1 := blk_frozen BK135.out 1; have hcz24_0 : w21.cell? ⟨gb132, 0, none⟩ = some (.int .i64 a0_0) := (blk_cell BK132.out 0).trans rfl; have hcz24_1 : w21.cell? ⟨gb132, 1, none⟩ = some (.slice (some ad134) l0_1.length c0_1) := (blk_cell BK132.out 1).trans rfl; have hfz24_0 := blk_frozen BK132.out 0; have hfz24_1 := blk_frozen BK132.out 1) | ((with_reducible refine gate_callee (f := 63) rfl ?_); refine goesM_ (some 27) rfl rfl Try.func63 (by kernel_rfl) rfl #[.int .i64 ((rd_T57 l0_1 x18_2).f0), .int .i64 0, .int .i64 (wrap64 (a0_0 - 1))] rfl ?_; (with_reducible refine (spec_l01In.calls ((rd_T57 l0_1 x18_2).f0) 0 (wrap64 (a0_0 - 1)) true _ A13.out).mono ?_); rintro e w' ⟨rfl, ⟨nd, rfl⟩⟩; refine ⟨_, rfl, ?_⟩) | (go_at_call 63; (with_reducible refine (spec_l01In.calls ((rd_T57 l0_1 x18_2).f1) (wrap64 (((rd_T57 l0_1 x18_2).f0) + 1)) (wrap64 (a0_0 - 1)) false _ A15.out).mono ?_); rintro e w' ⟨rfl, ⟨nd, rfl⟩⟩))
         go_ret
         exact ⟨by first | rfl | (simp [errW_none, errW_some] <;> rfl) | (simp [*, errW_none, errW_some] <;> rfl), by exact Lz2 HB GE132 GE135⟩
        replace c14 := Bool.eq_false_iff.mpr c14
        subst c14
        have H1 : (some false) = some r := by rw [if_neg (show ¬ (false = true) by decide)] at H; exact H
        clear H
        have H := H1
        clear H1
        obtain rfl := Option.some.inj H
        have p134 : 0 ≤ (x18_2 : Int) := ofA
        have q134 : x18_2 < (l0_1.length : Int) := ofA
        obtain ⟨ad134, e134, hx134_0, hx134_1⟩ := at_T57 HR0_1.out x18_2 p134 q134
        cases e134
        replace hx134_0 := (HB.out.cell (World.block_lt_of_cell? w _ hx134_0)).trans hx134_0
        replace hx134_1 := (HB.out.cell (World.block_lt_of_cell? w _ hx134_1)).trans hx134_1
        replace p134 := eq_true p134
        replace q134 := eq_true q134
        go_wp2_with (first | ((with_reducible refine gate_dst (N := 4) rfl ?_); (try (refine gate_guard (by rfl) ?_; dsimp only)); refine box_event ?hg (N := 4) ?hd (cs := #[.int .i64 0, .int .i64 0]) (t := 57) ?hr ?_; (case hd => rfl); (case hg => rfl); (case hr => first | (go_simp; done) | (go_simp; rfl)); intro gb135 hg w25 hbox hb; have BK135 := Aside0.mk (hbox); have GW135 := Aside0.mk ((by rw [hg]; exact (below_size (by exact Lz1 HB GE132)) : w.heap.size ≤ gb135)); have GE135 := Aside0.mk ((by rw [hg]; exact (below_size (by exact Lz1 HB GE132)) : w.heap.size ≤ gb135)); replace HB := Aside0.mk (below_step (by exact Lz1 HB GE132) hb); have NB132_135 := Aside0.mk ((by rw [hg]; exact Nat.ne_of_lt (blk_lt (g := gb132) (o := .cells #[.int .i64 a0_0, .slice (some ad134) l0_1.length c0_1] 30 (0, 0)) (Bz BK132)) : gb132 ≠ gb135)); have NB135_132 := Aside0.mk ((by rw [hg]; exact Nat.ne_of_gt (blk_lt (g := gb132) (o := .cells #[.int .i64 a0_0, .slice (some ad134) l0_1.length c0_1] 30 (0, 0)) (Bz BK132)) : gb135 ≠ gb132)); replace BK132 := Aside0.mk (blk_below (g := gb132) (o := .cells #[.int .i64 a0_0, .slice (some ad134) l0_1.length c0_1] 30 (0, 0)) (Bz BK132) hb); clear hb hbox hg; have hnb26 := NB135_132.out; have hnc26 := NB132_135.out; have hcz27_0 : w25.cell? ⟨gb135, 0, none⟩ = some (.int .i64 0) := (blk_cell BK135.out 0).trans rfl; have hcz27_1 : w25.cell? ⟨gb135, 1, none⟩ = some (.int .i64 0) := (blk_cell BK135.out 1).trans rfl; have hfz27_0 := blk_frozen BK135.out 0; have hfz27_1 := blk_frozen BK135.out 1; have hcz28_0 : w25.cell? ⟨gb132, 0, none⟩ = some (.int .i64 a0_0) := (blk_cell BK132.out 0).trans rfl; have hcz28_1 : w25.cell? ⟨gb132, 1, none⟩ = some (.slice (some ad134) l0_1.length c0_1) := (blk_cell BK132.out 1).trans rfl; have hfz28_0 := blk_frozen BK132.out 0; have hfz28_1 := blk_frozen BK132.out 1) | ((with_reducible refine gate_callee (f := 63) rfl ?_); refine goesM_ (some 27) rfl rfl Try.func63 (by kernel_rfl) rfl #[.int .i64 ((rd_T57 l0_1 x18_2).f0), .int .i64 0, .int .i64 (wrap64 (a0_0 - 1))] rfl ?_; (with_reducible refine (spec_l01In.calls ((rd_T57 l0_1 x18_2).f0) 0 (wrap64 (a0_0 - 1)) false _ A13.out).mono ?_); rintro e w' ⟨rfl, ⟨nd, rfl⟩⟩; refine ⟨_, rfl, ?_⟩))
        go_ret
        exact ⟨by first | rfl | (simp [errW_none, errW_some] <;> rfl) | (simp [*, errW_none, errW_some] <;> rfl), by exact Lz2 HB GE132 GE135⟩
       rw [if_neg c12] at H
       exact absurd H (by simp)
      rw [if_neg c11] at H
      exact absurd H (by simp)
     rw [if_neg c10] at H
     have c10b0 : decide (x18_2 < (l0_1.length : Int)) = false := decide_eq_false c10
     clear c10
     obtain rfl := Option.some.inj H
     go_wp2
     go_ret
     exact ⟨by first | rfl | (simp [errW_none, errW_some] <;> rfl) | (simp [*, errW_none, errW_some] <;> rfl), by exact Lz1 HB GE132⟩
def spec_l02Has.l0 : Nat → Int → List Int → Int → Int → Option (Bool)
 | 0, _, _, _, _ => none
 | k + 1, x1, x7, x8, x9 => if x9 < x8 then (if 0 ≤ x9 then (if x9 < (x7.length : Int) then (if (rd x7 x9) = x1 then (some true) else (spec_l02Has.l0 k x1 x7 x8 (wrap64 (x9 + 1)))) else (none)) else (none)) else (some false)
def spec_l02Has.f (k : Nat) (l0 : List Int) (a1 : Int) : Option (Bool) := spec_l02Has.l0 k a1 l0 (l0.length : Int) 0
set_option maxHeartbeats 8000000 in
set_option maxRecDepth 100000 in
theorem spec_l02Has.calls (k : Nat) (A0 : Option Addr) (c0 : Nat) (l0 : List Int) (a1 : Int) (r : Bool) (w : World) (hr0 : Kd.C (Kd.int .i64) w A0 l0.length l0) (hc0 : l0.length ≤ c0) (h : spec_l02Has.f k l0 a1 = some r) :
  Calls Try.prog 92 #[.slice A0 l0.length c0, .int .i64 a1] w fun e w' => e = .returned (.bool r) ∧ Drawn0 w w' := by
 have HR0 := Aside0.mk hr0
 have HC0 := Aside0.mk hc0
 clear hr0 hc0
 have H : (spec_l02Has.l0 k a1 l0 (l0.length : Int) 0) = some r := h
 clear h
 have H' := Aside0.mk H
 clear H
 go_enter Try.func92, Try.ntmps92
 go_wp2
 go_loopg [9] k (fun kq v9 w' => ∃ (x9_1 : Int), v9 = .int .i64 x9_1 ∧ Aside0 (spec_l02Has.l0 kq a1 l0 (l0.length : Int) x9_1 = some r) ∧ Aside0 (kq ≤ k) ∧ Drawn0 w w')
 case atStart => exact ⟨(0), eqA, H', ⟨Nat.le_refl _⟩, by repeat (first | exact Drawn0.refl _ | apply Drawn0.step)⟩
 case round =>
  clear H'
  obtain ⟨x9_1, rfl, HA, HK1, ⟨m1, rfl⟩⟩ := hrel
  cases gk with
  | zero => exact absurd HA.out (by simp [spec_l02Has.l0])
  | succ k1 =>
   have H := HA.out
   clear HA
   simp only [spec_l02Has.l0] at H
   by_cases c3 : x9_1 < (l0.length : Int)
   ·rw [if_pos c3] at H
    have c3b0 : decide (x9_1 < (l0.length : Int)) = true := decide_eq_true c3
    clear c3
    by_cases c4 : 0 ≤ x9_1
    ·rw [if_pos c4] at H
     have c4b0 : decide (0 ≤ x9_1) = true := decide_eq_true c4
     clear c4
     by_cases c5 : x9_1 < (l0.length : Int)
     ·rw [if_pos c5] at H
      have c5b0 : decide (x9_1 < (l0.length : Int)) = true := decide_eq_true c5
      clear c5
      by_cases c6 : (rd l0 x9_1) = a1
      ·rw [if_pos c6] at H
       have c6b0 : ((rd l0 x9_1) == a1) = true := beq_iff_eq.mpr c6
       have c6b1 : ((rd l0 x9_1) != a1) = false := bne_eq_false_iff_eq.mpr c6
       clear c6
       obtain rfl := Option.some.inj H
       have p138 : 0 ≤ (x9_1 : Int) := ofA
       have q138 : x9_1 < (l0.length : Int) := ofA
       obtain ⟨ad138, e138, hx138_0⟩ := Kd.at_int HR0.out x9_1 p138 q138
       cases e138
       replace p138 := eq_true p138
       replace q138 := eq_true q138
       go_wp2
       go_ret
       exact ⟨eqA, by repeat (first | exact Drawn0.refl _ | apply Drawn0.step)⟩
      rw [if_neg c6] at H
      have c6b0 : ((rd l0 x9_1) == a1) = false := beq_eq_false_iff_ne.mpr c6
      have c6b1 : ((rd l0 x9_1) != a1) = true := bne_iff_ne.mpr c6
      have H' := Aside0.mk H
      clear H
      have p138 : 0 ≤ (x9_1 : Int) := ofA
      have q138 : x9_1 < (l0.length : Int) := ofA
      obtain ⟨ad138, e138, hx138_0⟩ := Kd.at_int HR0.out x9_1 p138 q138
      cases e138
      replace p138 := eq_true p138
      replace q138 := eq_true q138
      go_wp2
      go_roundg k1
      case measure => have := HK1.out; omega
      case rel => exact ⟨(wrap64 (x9_1 + 1)), eqA, H', ⟨by have := HK1.out; omega⟩, by repeat (first | exact Drawn0.refl _ | apply Drawn0.step)⟩
     rw [if_neg c5] at H
     exact absurd H (by simp)
    rw [if_neg c4] at H
    exact absurd H (by simp)
   rw [if_neg c3] at H
   have c3b0 : decide (x9_1 < (l0.length : Int)) = false := decide_eq_false c3
   clear c3
   obtain rfl := Option.some.inj H
   go_wp2
   go_ret
   exact ⟨eqA, by repeat (first | exact Drawn0.refl _ | apply Drawn0.step)⟩
mutual
def spec_l02Reach.l0 : Nat → List Int → Int → Int → List (S57) → Option (List Int)
 | 0, _, _, _, _ => none
 | k + 1, x3, x4, x140000, x140001 => if x4 < (x3.length : Int) then (spec_l02Reach.l1 k x3 x4 x140001 (x140001.length : Int) 0 x140000 x140001) else (some x3)
def spec_l02Reach.l1 : Nat → List Int → Int → List (S57) → Int → Int → Int → List (S57) → Option (List Int)
 | 0, _, _, _, _, _, _, _ => none
 | k + 1, x3, x4, x15, x16, x17, x140000, x140001 => if x17 < x16 then (if 0 ≤ x17 then (if x17 < (x15.length : Int) then (if 0 ≤ x4 then (if x4 < (x3.length : Int) then (if ((rd_T57 x15 x17).f0) = (rd x3 x4) then ((spec_l02Has.f k x3 ((rd_T57 x15 x17).f1)).bind fun t146 => (spec_l02Reach.j2 k x3 x4 x15 x16 x17 (!t146) x140000 x140001 ((rd_T57 x15 x17).f0) ((rd_T57 x15 x17).f1))) else (spec_l02Reach.j2 k x3 x4 x15 x16 x17 false x140000 x140001 ((rd_T57 x15 x17).f0) ((rd_T57 x15 x17).f1))) else (none)) else (none)) else (none)) else (none)) else (spec_l02Reach.l0 k x3 (wrap64 (x4 + 1)) x140000 x140001)
def spec_l02Reach.j2 : Nat → List Int → Int → List (S57) → Int → Int → Bool → Int → List (S57) → Int → Int → Option (List Int)
 | 0, _, _, _, _, _, _, _, _, _, _ => none
 | k + 1, x3, x4, x15, x16, x17, x34, x140000, x140001, x145000, x145001 => if x34 = true then (if x3.length < 17592186044416 then (spec_l02Reach.j3 k (x3 ++ [x145001]) x4 x15 x16 x17 x140000 x140001 x145000 x145001) else (none)) else (spec_l02Reach.j3 k x3 x4 x15 x16 x17 x140000 x140001 x145000 x145001)
def spec_l02Reach.j3 : Nat → List Int → Int → List (S57) → Int → Int → Int → List (S57) → Int → Int → Option (List Int)
 | 0, _, _, _, _, _, _, _, _, _ => none
 | k + 1, x3, x4, x15, x16, x17, x140000, x140001, x145000, x145001 => if 0 ≤ x4 then (if x4 < (x3.length : Int) then (if x145001 = (rd x3 x4) then ((spec_l02Has.f k x3 x145000).bind fun t151 => (if t151 = true then (spec_l02Reach.l1 k x3 x4 x15 x16 (wrap64 (x17 + 1)) x140000 x140001) else (if x3.length < 17592186044416 then (spec_l02Reach.l1 k (x3 ++ [x145000]) x4 x15 x16 (wrap64 (x17 + 1)) x140000 x140001) else (none)))) else (spec_l02Reach.l1 k x3 x4 x15 x16 (wrap64 (x17 + 1)) x140000 x140001)) else (none)) else (none)
end
def spec_l02Reach.f (k : Nat) (a0_0 : Int) (l0_1 : List (S57)) : Option (List Int) := spec_l02Reach.l0 k (([0] : List Int)) 0 a0_0 l0_1
set_option maxHeartbeats 8000000 in
set_option maxRecDepth 100000 in
theorem spec_l02Reach.calls (k : Nat) (a0_0 : Int) (A0_1 : Option Addr) (c0_1 : Nat) (l0_1 : List (S57)) (r : List Int) (w : World) (hr0_1 : Kd.C k57 w A0_1 l0_1.length l0_1) (hc0_1 : l0_1.length ≤ c0_1) (h : spec_l02Reach.f k a0_0 l0_1 = some r) :
  Calls Try.prog 81 #[.agg #[.int .i64 a0_0, .slice A0_1 l0_1.length c0_1]] w fun e w' => ∃ v0_ : Value, e = .returned (v0_) ∧ Kd.R (Kd.int .i64) 3 w' w.heap.size (fun _ => True) v0_ r ∧ Below w.heap.size w w' := by
 have hu30 := Try.underlying30
 have hu57 := Try.underlying57
 have HR0_1 := Aside0.mk hr0_1
 have HC0_1 := Aside0.mk hc0_1
 clear hr0_1 hc0_1
 have HB := Aside0.mk (Below.refl w.heap.size w)
 have H : (spec_l02Reach.l0 k (([0] : List Int)) 0 a0_0 l0_1) = some r := h
 clear h
 obtain ⟨y140, hy140⟩ : ∃ y_ : List Int, y_ = (([0] : List Int)) := ⟨_, rfl⟩
 replace H : (spec_l02Reach.l0 k y140 0 a0_0 l0_1) = some r := by first | (rw [hy140]; with_reducible exact H) | (have H2_ := (Option.bind_some _ _).symm.trans H; rw [hy140]; with_reducible exact H2_) | (have H2_ := (Option.bind_some _ _).symm.trans H; with_reducible exact H2_) | with_reducible exact H | (rw [hy140]; exact H) | exact H
 have Ny140 := Aside0.mk hy140
 clear hy140
 have H' := Aside0.mk H
 clear H
 go_enter Try.func81, Try.ntmps81
 go_wp2_with (first | ((with_reducible refine gate_dst (N := 1) rfl ?_); refine box_event ?hg (N := 1) ?hd (cs := #[.int .i64 a0_0, .slice A0_1 l0_1.length c0_1]) (t := 30) ?hr ?_; (case hd => rfl); (case hg => rfl); (case hr => first | (go_simp; done) | (go_simp; rfl)); intro gb139 hg w2 hbox hb; have BK139 := Aside0.mk (hbox); have GW139 := Aside0.mk ((by rw [hg]; exact (below_size (Lz HB)) : w.heap.size ≤ gb139)); have GE139 := Aside0.mk ((by rw [hg]; exact (below_size (Lz HB)) : w.heap.size ≤ gb139)); replace HB := Aside0.mk (below_step (Lz HB) hb); clear hb hbox hg) | ((with_reducible refine gate_dst (N := 7) rfl ?_); refine Kd.R_lit (Kd.int .i64) _ 3 ?hg (N := 7) ?hd (xs := ([0] : List Int)) (inner := [.int .i64 0]) (ok := fun _ => True) (okp := fun _ => True) ?hr ?hp (fun _ hk => hk) trivial (Below.refl _ _) (Nat.le_refl _) (by simp) ?_; (case hd => rfl); (case hg => rfl); (case hr => first | (go_simp; done) | (go_simp; rfl)); (case hp => exact (Reps.one (show Kd.M (Kd.int .i64) _ _ _ 0 [.int .i64 0] from rfl) (Reps.none _ _))); intro v141 w3 ho4 hb hg_ hnew_; clear hg_ hnew_; (first | rw [← Ny140.out] at ho4 | (simp only [Int.reduceToNat] at ho4; rw [← Ny140.out] at ho4)); have HO142 := Aside0.mk (Kd.R_lower ho4 (below_size (by exact Lz1 HB GE139))); replace BK139 := Aside0.mk (blk_below (g := gb139) (o := .cells #[.int .i64 a0_0, .slice A0_1 l0_1.length c0_1] 30 (0, 0)) (Bz BK139) hb); replace HB := Aside0.mk (below_step (by exact Lz1 HB GE139) hb); clear hb ho4))
 repeat (go_quiet (first | ((with_reducible refine gate_dst (N := 1) rfl ?_); refine box_event ?hg (N := 1) ?hd (cs := #[.int .i64 a0_0, .slice A0_1 l0_1.length c0_1]) (t := 30) ?hr ?_; (case hd => rfl); (case hg => rfl); (case hr => first | (go_simp; done) | (go_simp; rfl)); intro gb139 hg w2 hbox hb; have BK139 := Aside0.mk (hbox); have GW139 := Aside0.mk ((by rw [hg]; exact (below_size (Lz HB)) : w.heap.size ≤ gb139)); have GE139 := Aside0.mk ((by rw [hg]; exact (below_size (Lz HB)) : w.heap.size ≤ gb139)); replace HB := Aside0.mk (below_step (Lz HB) hb); clear hb hbox hg) | ((with_reducible refine gate_dst (N := 7) rfl ?_); refine Kd.R_lit (Kd.int .i64) _ 3 ?hg (N := 7) ?hd (xs := ([0] : List Int)) (inner := [.int .i64 0]) (ok := fun _ => True) (okp := fun _ => True) ?hr ?hp (fun _ hk => hk) trivial (Below.refl _ _) (Nat.le_refl _) (by simp) ?_; (case hd => rfl); (case hg => rfl); (case hr => first | (go_simp; done) | (go_simp; rfl)); (case hp => exact (Reps.one (show Kd.M (Kd.int .i64) _ _ _ 0 [.int .i64 0] from rfl) (Reps.none _ _))); intro v141 w3 ho4 hb hg_ hnew_; clear hg_ hnew_; (first | rw [← Ny140.out] at ho4 | (simp only [Int.reduceToNat] at ho4; rw [← Ny140.out] at ho4)); have HO142 := Aside0.mk (Kd.R_lower ho4 (below_size (by exact Lz1 HB GE139))); replace BK139 := Aside0.mk (blk_below (g := gb139) (o := .cells #[.int .i64 a0_0, .slice A0_1 l0_1.length c0_1] 30 (0, 0)) (Bz BK139) hb); replace HB := Aside0.mk (below_step (by exact Lz1 HB GE139) hb); clear hb ho4)); try go_wp2_with (first | ((with_reducible refine gate_dst (N := 1) rfl ?_); refine box_event ?hg (N := 1) ?hd (cs := #[.int .i64 a0_0, .slice A0_1 l0_1.length c0_1]) (t := 30) ?hr ?_; (case hd => rfl); (case hg => rfl); (case hr => first | (go_simp; done) | (go_simp; rfl)); intro gb139 hg w2 hbox hb; have BK139 := Aside0.mk (hbox); have GW139 := Aside0.mk ((by rw [hg]; exact (below_size (Lz HB)) : w.heap.size ≤ gb139)); have GE139 := Aside0.mk ((by rw [hg]; exact (below_size (Lz HB)) : w.heap.size ≤ gb139)); replace HB := Aside0.mk (below_step (Lz HB) hb); clear hb hbox hg) | ((with_reducible refine gate_dst (N := 7) rfl ?_); refine Kd.R_lit (Kd.int .i64) _ 3 ?hg (N := 7) ?hd (xs := ([0] : List Int)) (inner := [.int .i64 0]) (ok := fun _ => True) (okp := fun _ => True) ?hr ?hp (fun _ hk => hk) trivial (Below.refl _ _) (Nat.le_refl _) (by simp) ?_; (case hd => rfl); (case hg => rfl); (case hr => first | (go_simp; done) | (go_simp; rfl)); (case hp => exact (Reps.one (show Kd.M (Kd.int .i64) _ _ _ 0 [.int .i64 0] from rfl) (Reps.none _ _))); intro v141 w3 ho4 hb hg_ hnew_; clear hg_ hnew_; (first | rw [← Ny140.out] at ho4 | (simp only [Int.reduceToNat] at ho4; rw [← Ny140.out] at ho4)); have HO142 := Aside0.mk (Kd.R_lower ho4 (below_size (by exact Lz1 HB GE139))); replace BK139 := Aside0.mk (blk_below (g := gb139) (o := .cells #[.int .i64 a0_0, .slice A0_1 l0_1.length c0_1] 30 (0, 0)) (Bz BK139) hb); replace HB := Aside0.mk (below_step (by exact Lz1 HB GE139) hb); clear hb ho4)))
 go_loopg [3, 4] k (fun kq v3 v4 w' => ∃ (x3_1 : List Int) (x4_1 : Int), v4 = .int .i64 x4_1 ∧ Aside0 (spec_l02Reach.l0 kq x3_1 x4_1 a0_0 l0_1 = some r) ∧ Aside0 (kq ≤ k) ∧ Aside0 (Kd.R (Kd.int .i64) 3 w' w.heap.size (fun _ => True) v3 x3_1) ∧ Aside0 (w'.heap[gb139]? = some (.cells #[.int .i64 a0_0, (.slice A0_1 l0_1.length c0_1)] 30 (0, 0))) ∧ Aside0 (Below w.heap.size w w'))
 case atStart => exact ⟨(y140), (0), eqA, H', ⟨Nat.le_refl _⟩, ⟨by exact Rz HO142⟩, ⟨by exact Bz BK139⟩, ⟨by exact Lz1 HB GE139⟩⟩
 case round =>
  clear H'
  obtain ⟨x3_1, x4_1, rfl, HA, HK1, HO_3, BK139, HB⟩ := hrel
  cases gk with
  | zero => exact absurd HA.out (by simp [spec_l02Reach.l0])
  | succ k1 =>
   have H := HA.out
   clear HA
   simp only [spec_l02Reach.l0] at H
   by_cases c5 : x4_1 < (x3_1.length : Int)
   ·rw [if_pos c5] at H
    have c5b0 : decide (x4_1 < (x3_1.length : Int)) = true := decide_eq_true c5
    clear c5
    have H' := Aside0.mk H
    clear H
    obtain ⟨Ao6, co6, eo6⟩ := Kd.R_slice HO_3.out
    subst eo6
    have hcz7_0 : wr.cell? ⟨gb139, 0, none⟩ = some (.int .i64 a0_0) := (blk_cell BK139.out 0).trans rfl
    have hcz7_1 : wr.cell? ⟨gb139, 1, none⟩ = some (.slice A0_1 l0_1.length c0_1) := (blk_cell BK139.out 1).trans rfl
    have hfz7_0 := blk_frozen BK139.out 0
    have hfz7_1 := blk_frozen BK139.out 1
    go_wp2
    repeat (go_quiet (fail); try go_wp2)
    go_loopg [3, 17] k1 (fun kq v3 v17 w' => ∃ (x3_2 : List Int) (x17_2 : Int), v17 = .int .i64 x17_2 ∧ Aside0 (spec_l02Reach.l1 kq x3_2 x4_1 l0_1 (l0_1.length : Int) x17_2 a0_0 l0_1 = some r) ∧ Aside0 (kq ≤ k1) ∧ Aside0 (Kd.R (Kd.int .i64) 3 w' w.heap.size (fun _ => True) v3 x3_2) ∧ Aside0 (w'.heap[gb139]? = some (.cells #[.int .i64 a0_0, (.slice A0_1 l0_1.length c0_1)] 30 (0, 0))) ∧ Aside0 (Below w.heap.size w w'))
    case atStart => exact ⟨(x3_1), (0), eqA, H', ⟨Nat.le_refl _⟩, ⟨by exact Rz HO_3⟩, ⟨by exact Bz BK139⟩, ⟨by exact Lz1 HB GE139⟩⟩
    case round =>
     clear H'
     try clear c5
     try clear c5b0
     obtain ⟨x3_2, x17_2, rfl, HA, HK2, HO_3, BK139, HB⟩ := hrel
     cases gk with
     | zero => exact absurd HA.out (by simp [spec_l02Reach.l1])
     | succ k2 =>
      have H := HA.out
      clear HA
      simp only [spec_l02Reach.l1] at H
      by_cases c8 : x17_2 < (l0_1.length : Int)
      ·rw [if_pos c8] at H
       have c8b0 : decide (x17_2 < (l0_1.length : Int)) = true := decide_eq_true c8
       clear c8
       by_cases c9 : 0 ≤ x17_2
       ·rw [if_pos c9] at H
        have c9b0 : decide (0 ≤ x17_2) = true := decide_eq_true c9
        clear c9
        by_cases c10 : x17_2 < (l0_1.length : Int)
        ·rw [if_pos c10] at H
         have c10b0 : decide (x17_2 < (l0_1.length : Int)) = true := decide_eq_true c10
         clear c10
         have HC11 := Aside0.mk H
         clear H
         have p143 : 0 ≤ (x17_2 : Int) := ofA
         have q143 : x17_2 < (l0_1.length : Int) := ofA
         obtain ⟨ad143, e143, hx143_0, hx143_1⟩ := at_T57 HR0_1.out x17_2 p143 q143
         cases e143
         replace hx143_0 := (HB.out.cell (World.block_lt_of_cell? w _ hx143_0)).trans hx143_0
         replace hx143_1 := (HB.out.cell (World.block_lt_of_cell? w _ hx143_1)).trans hx143_1
         replace p143 := eq_true p143
         replace q143 := eq_true q143
         go_upto_region 8 with (first | ((with_reducible refine gate_dst (N := 6) rfl ?_); refine box_event ?hg (N := 6) ?hd (cs := #[.int .i64 0, .int .i64 0]) (t := 57) ?hr ?_; (case hd => rfl); (case hg => rfl); (case hr => first | (go_simp; done) | (go_simp; rfl)); intro gb144 hg w12 hbox hb; replace HO_3 := Aside0.mk (Kd.R_below (Rz HO_3) hb); have BK144 := Aside0.mk (hbox); have GW144 := Aside0.mk ((by rw [hg]; exact (below_size (by exact Lz1 HB GE139)) : w.heap.size ≤ gb144)); have GE144 := Aside0.mk ((by rw [hg]; exact (below_size (by exact Lz1 HB GE139)) : w.heap.size ≤ gb144)); replace HB := Aside0.mk (below_step (by exact Lz1 HB GE139) hb); have NB139_144 := Aside0.mk ((by rw [hg]; exact Nat.ne_of_lt (blk_lt (g := gb139) (o := .cells #[.int .i64 a0_0, .slice (some ad143) l0_1.length c0_1] 30 (0, 0)) (Bz BK139)) : gb139 ≠ gb144)); have NB144_139 := Aside0.mk ((by rw [hg]; exact Nat.ne_of_gt (blk_lt (g := gb139) (o := .cells #[.int .i64 a0_0, .slice (some ad143) l0_1.length c0_1] 30 (0, 0)) (Bz BK139)) : gb144 ≠ gb139)); replace BK139 := Aside0.mk (blk_below (g := gb139) (o := .cells #[.int .i64 a0_0, .slice (some ad143) l0_1.length c0_1] 30 (0, 0)) (Bz BK139) hb); clear hb hbox hg; have hnb13 := NB144_139.out; have hnc13 := NB139_144.out; have hcz14_0 : w12.cell? ⟨gb144, 0, none⟩ = some (.int .i64 0) := (blk_cell BK144.out 0).trans rfl; have hcz14_1 : w12.cell? ⟨gb144, 1, none⟩ = some (.int .i64 0) := (blk_cell BK144.out 1).trans rfl; have hfz14_0 := blk_frozen BK144.out 0; have hfz14_1 := blk_frozen BK144.out 1))
         repeat (go_quiet (first | ((with_reducible refine gate_dst (N := 6) rfl ?_); refine box_event ?hg (N := 6) ?hd (cs := #[.int .i64 0, .int .i64 0]) (t := 57) ?hr ?_; (case hd => rfl); (case hg => rfl); (case hr => first | (go_simp; done) | (go_simp; rfl)); intro gb144 hg w12 hbox hb; replace HO_3 := Aside0.mk (Kd.R_below (Rz HO_3) hb); have BK144 := Aside0.mk (hbox); have GW144 := Aside0.mk ((by rw [hg]; exact (below_size (by exact Lz1 HB GE139)) : w.heap.size ≤ gb144)); have GE144 := Aside0.mk ((by rw [hg]; exact (below_size (by exact Lz1 HB GE139)) : w.heap.size ≤ gb144)); replace HB := Aside0.mk (below_step (by exact Lz1 HB GE139) hb); have NB139_144 := Aside0.mk ((by rw [hg]; exact Nat.ne_of_lt (blk_lt (g := gb139) (o := .cells #[.int .i64 a0_0, .slice (some ad143) l0_1.length c0_1] 30 (0, 0)) (Bz BK139)) : gb139 ≠ gb144)); have NB144_139 := Aside0.mk ((by rw [hg]; exact Nat.ne_of_gt (blk_lt (g := gb139) (o := .cells #[.int .i64 a0_0, .slice (some ad143) l0_1.length c0_1] 30 (0, 0)) (Bz BK139)) : gb144 ≠ gb139)); replace BK139 := Aside0.mk (blk_below (g := gb139) (o := .cells #[.int .i64 a0_0, .slice (some ad143) l0_1.length c0_1] 30 (0, 0)) (Bz BK139) hb); clear hb hbox hg; have hnb13 := NB144_139.out; have hnc13 := NB139_144.out; have hcz14_0 : w12.cell? ⟨gb144, 0, none⟩ = some (.int .i64 0) := (blk_cell BK144.out 0).trans rfl; have hcz14_1 : w12.cell? ⟨gb144, 1, none⟩ = some (.int .i64 0) := (blk_cell BK144.out 1).trans rfl; have hfz14_0 := blk_frozen BK144.out 0; have hfz14_1 := blk_frozen BK144.out 1)); go_upto_region 8 with (first | ((with_reducible refine gate_dst (N := 6) rfl ?_); refine box_event ?hg (N := 6) ?hd (cs := #[.int .i64 0, .int .i64 0]) (t := 57) ?hr ?_; (case hd => rfl); (case hg => rfl); (case hr => first | (go_simp; done) | (go_simp; rfl)); intro gb144 hg w12 hbox hb; replace HO_3 := Aside0.mk (Kd.R_below (Rz HO_3) hb); have BK144 := Aside0.mk (hbox); have GW144 := Aside0.mk ((by rw [hg]; exact (below_size (by exact Lz1 HB GE139)) : w.heap.size ≤ gb144)); have GE144 := Aside0.mk ((by rw [hg]; exact (below_size (by exact Lz1 HB GE139)) : w.heap.size ≤ gb144)); replace HB := Aside0.mk (below_step (by exact Lz1 HB GE139) hb); have NB139_144 := Aside0.mk ((by rw [hg]; exact Nat.ne_of_lt (blk_lt (g := gb139) (o := .cells #[.int .i64 a0_0, .slice (some ad143) l0_1.length c0_1] 30 (0, 0)) (Bz BK139)) : gb139 ≠ gb144)); have NB144_139 := Aside0.mk ((by rw [hg]; exact Nat.ne_of_gt (blk_lt (g := gb139) (o := .cells #[.int .i64 a0_0, .slice (some ad143) l0_1.length c0_1] 30 (0, 0)) (Bz BK139)) : gb144 ≠ gb139)); replace BK139 := Aside0.mk (blk_below (g := gb139) (o := .cells #[.int .i64 a0_0, .slice (some ad143) l0_1.length c0_1] 30 (0, 0)) (Bz BK139) hb); clear hb hbox hg; have hnb13 := NB144_139.out; have hnc13 := NB139_144.out; have hcz14_0 : w12.cell? ⟨gb144, 0, none⟩ = some (.int .i64 0) := (blk_cell BK144.out 0).trans rfl; have hcz14_1 : w12.cell? ⟨gb144, 1, none⟩ = some (.int .i64 0) := (blk_cell BK144.out 1).trans rfl; have hfz14_0 := blk_frozen BK144.out 0; have hfz14_1 := blk_frozen BK144.out 1)))
         (try simp only [Act.put, List.setIfInBounds_toArray, List.set_cons_zero, List.set_cons_succ])
         go_cut [34] (fun v34 wc => ∃ (kq : Nat) (x34_10 : Bool), v34 = .bool x34_10 ∧ Aside0 (spec_l02Reach.j2 kq x3_2 x4_1 l0_1 (l0_1.length : Int) x17_2 x34_10 a0_0 l0_1 ((rd_T57 l0_1 x17_2).f0) ((rd_T57 l0_1 x17_2).f1) = some r) ∧ Aside0 (kq ≤ k2) ∧ Aside0 (Kd.R (Kd.int .i64) 3 wc w.heap.size (fun _ => True) u3 x3_2) ∧ Aside0 (wc.heap[gb139]? = some (.cells #[.int .i64 a0_0, (.slice (some ad143) l0_1.length c0_1)] 30 (0, 0))) ∧ Aside0 (wc.heap[gb144]? = some (.cells #[.int .i64 ((rd_T57 l0_1 x17_2).f0), .int .i64 ((rd_T57 l0_1 x17_2).f1)] 57 (0, 0))) ∧ Aside0 (Below w.heap.size w wc))
         case first =>
          have H := HC11.out
          clear HC11
          by_cases c15 : 0 ≤ x4_1
          ·rw [if_pos c15] at H
           have c15b0 : decide (0 ≤ x4_1) = true := decide_eq_true c15
           clear c15
           (first | rw [c15b0] | (simp only [i64_w, i32_w]; rw [c15b0]) | skip)
           by_cases c16 : x4_1 < (x3_2.length : Int)
           ·rw [if_pos c16] at H
            have c16b0 : decide (x4_1 < (x3_2.length : Int)) = true := decide_eq_true c16
            clear c16
            by_cases c17 : ((rd_T57 l0_1 x17_2).f0) = (rd x3_2 x4_1)
            ·rw [if_pos c17] at H
             have c17b0 : (((rd_T57 l0_1 x17_2).f0) == (rd x3_2 x4_1)) = true := beq_iff_eq.mpr c17
             have c17b1 : (((rd_T57 l0_1 x17_2).f0) != (rd x3_2 x4_1)) = false := bne_eq_false_iff_eq.mpr c17
             clear c17
             replace H := Option.bind_eq_some_iff.mp H
             obtain ⟨t146, A180, H⟩ := H
             replace H : (spec_l02Reach.j2 k2 x3_2 x4_1 l0_1 (l0_1.length : Int) x17_2 (!t146) a0_0 l0_1 ((rd_T57 l0_1 x17_2).f0) ((rd_T57 l0_1 x17_2).f1)) = some r := H
             have A18 := Aside0.mk A180
             clear A180
             have H' := Aside0.mk H
             clear H
             have hnb19 := NB144_139.out
             have hnc19 := NB139_144.out
             have hcz20_0 : w12.cell? ⟨gb144, 0, none⟩ = some (.int .i64 0) := (blk_cell BK144.out 0).trans rfl
             have hcz20_1 : w12.cell? ⟨gb144, 1, none⟩ = some (.int .i64 0) := (blk_cell BK144.out 1).trans rfl
             have hfz20_0 := blk_frozen BK144.out 0
             have hfz20_1 := blk_frozen BK144.out 1
             obtain ⟨Ao21, co21, eo21⟩ := Kd.R_slice HO_3.out
             subst eo21
             have p145 : 0 ≤ (x4_1 : Int) := ofA
             have q145 : x4_1 < (x3_2.length : Int) := ofA
             obtain ⟨ad145, e145, hx145_0⟩ := Kd.at_int (Kd.R_reads' HO_3.out).2.2 x4_1 p145 q145
             cases e145
             have hn145_0 : ad145.block ≠ gb144 := Kd.own_blk (Kd.R_ne HO_3.out BK144.out (by decide))
             have hn145_1 : ad145.block ≠ gb144 := Kd.own_blk (Kd.R_ne HO_3.out BK144.out (by decide))
             replace hx145_0 := (cell_far (p := ⟨gb144, 0, none⟩) (by first | (rw [add_block]; exact hn145_0) | (show (Addr.add _ _).block ≠ _; rw [add_block]; exact hn145_0) | exact hn145_0) (.int .i64 ((rd_T57 l0_1 x17_2).f0))).trans hx145_0
             replace hx145_0 := (cell_far (p := ⟨gb144, 1, none⟩) (by first | (rw [add_block]; exact hn145_1) | (show (Addr.add _ _).block ≠ _; rw [add_block]; exact hn145_1) | exact hn145_1) (.int .i64 ((rd_T57 l0_1 x17_2).f1))).trans hx145_0
             (try have hy145_0 := fun (n_ : Nat) => (show ((((w12.drewN n_).setCell ⟨gb144, 0, none⟩ (.int .i64 ((rd_T57 l0_1 x17_2).f0))).setCell ⟨gb144, 1, none⟩ (.int .i64 ((rd_T57 l0_1 x17_2).f1)))).cell? _ = some _ from hx145_0))
             clear hn145_0
             clear hn145_1
             replace p145 := eq_true p145
             replace q145 := eq_true q145
             go_wp2_with (first | (go_at_call 92; (with_reducible refine (spec_l02Has.calls k2 _ _ x3_2 ((rd_T57 l0_1 x17_2).f1) t146 _ ?side1 ?side2 A18.out).mono ?_); (case side1 => refine (Kd.R_reads' (e := 3) (base := w.heap.size) (ok := fun k_ => True) (n := x3_2.length) (c := co21) ?_).2.2; exact (by (with_reducible repeat (first | apply Kd.R_alloc | apply Kd.R_drewN | apply Kd.R_drew)); exact (Kd.R_mono (Kd.R_far (p := ⟨gb144, 1, none⟩) (Kd.R_far (p := ⟨gb144, 0, none⟩) (Kd.R_types HO_3.out BK144.out (by decide)) (fun _ hk => hk.2) (.int .i64 ((rd_T57 l0_1 x17_2).f0))) (fun _ hk => hk.2) (.int .i64 ((rd_T57 l0_1 x17_2).f1))) (fun _ h_ => h_.1)))); (case side2 => exact (Kd.R_reads' HO_3.out).2.1); rintro e w' ⟨rfl, ⟨nd, rfl⟩⟩; (try first | exact ⟨rfl, _, World.drewN_drewN _ _ _⟩ | exact ⟨rfl, _, Eq.trans (World.drewN_drewN _ _ _) (congrArg (World.drewN _) (Nat.add_assoc _ _ _))⟩)))
             repeat (go_quiet (first | (go_at_call 92; (with_reducible refine (spec_l02Has.calls k2 _ _ x3_2 ((rd_T57 l0_1 x17_2).f1) t146 _ ?side1 ?side2 A18.out).mono ?_); (case side1 => refine (Kd.R_reads' (e := 3) (base := w.heap.size) (ok := fun k_ => True) (n := x3_2.length) (c := co21) ?_).2.2; exact (by (with_reducible repeat (first | apply Kd.R_alloc | apply Kd.R_drewN | apply Kd.R_drew)); exact (Kd.R_mono (Kd.R_far (p := ⟨gb144, 1, none⟩) (Kd.R_far (p := ⟨gb144, 0, none⟩) (Kd.R_types HO_3.out BK144.out (by decide)) (fun _ hk => hk.2) (.int .i64 ((rd_T57 l0_1 x17_2).f0))) (fun _ hk => hk.2) (.int .i64 ((rd_T57 l0_1 x17_2).f1))) (fun _ h_ => h_.1)))); (case side2 => exact (Kd.R_reads' HO_3.out).2.1); rintro e w' ⟨rfl, ⟨nd, rfl⟩⟩; (try first | exact ⟨rfl, _, World.drewN_drewN _ _ _⟩ | exact ⟨rfl, _, Eq.trans (World.drewN_drewN _ _ _) (congrArg (World.drewN _) (Nat.add_assoc _ _ _))⟩))); try go_wp2_with (first | (go_at_call 92; (with_reducible refine (spec_l02Has.calls k2 _ _ x3_2 ((rd_T57 l0_1 x17_2).f1) t146 _ ?side1 ?side2 A18.out).mono ?_); (case side1 => refine (Kd.R_reads' (e := 3) (base := w.heap.size) (ok := fun k_ => True) (n := x3_2.length) (c := co21) ?_).2.2; exact (by (with_reducible repeat (first | apply Kd.R_alloc | apply Kd.R_drewN | apply Kd.R_drew)); exact (Kd.R_mono (Kd.R_far (p := ⟨gb144, 1, none⟩) (Kd.R_far (p := ⟨gb144, 0, none⟩) (Kd.R_types HO_3.out BK144.out (by decide)) (fun _ hk => hk.2) (.int .i64 ((rd_T57 l0_1 x17_2).f0))) (fun _ hk => hk.2) (.int .i64 ((rd_T57 l0_1 x17_2).f1))) (fun _ h_ => h_.1)))); (case side2 => exact (Kd.R_reads' HO_3.out).2.1); rintro e w' ⟨rfl, ⟨nd, rfl⟩⟩; (try first | exact ⟨rfl, _, World.drewN_drewN _ _ _⟩ | exact ⟨rfl, _, Eq.trans (World.drewN_drewN _ _ _) (congrArg (World.drewN _) (Nat.add_assoc _ _ _))⟩))))
             go_meet
             case rel => exact ⟨_, (!t146), eqA, H', ⟨by have := HK1.out; have := HK2.out; first | omega | exact Nat.le_refl _⟩, ⟨by (with_reducible repeat (first | apply Kd.R_alloc | apply Kd.R_drewN | apply Kd.R_drew)); exact Kd.R_mono (Kd.R_far (p := ⟨gb144, 1, none⟩) (Kd.R_far (p := ⟨gb144, 0, none⟩) (Kd.R_types HO_3.out BK144.out (by decide)) (fun _ hk => hk.2) (.int .i64 ((rd_T57 l0_1 x17_2).f0))) (fun _ hk => hk.2) (.int .i64 ((rd_T57 l0_1 x17_2).f1))) (fun _ hk => trivial)⟩, ⟨by (with_reducible repeat (first | refine blk_drewN ?_ _ | refine blk_drew ?_ | refine blk_alloc ?_ _)); refine blk_far ?_ NB139_144.out _; (with_reducible repeat (first | refine blk_drewN ?_ _ | refine blk_drew ?_ | refine blk_alloc ?_ _)); refine blk_far ?_ NB139_144.out _; exact Bz BK139⟩, ⟨by (with_reducible repeat (first | refine blk_drewN ?_ _ | refine blk_drew ?_ | refine blk_alloc ?_ _)); refine blk_put (cs := #[.int .i64 ((rd_T57 l0_1 x17_2).f0), .int .i64 0]) ?_ 1 _ rfl; (with_reducible repeat (first | refine blk_drewN ?_ _ | refine blk_drew ?_ | refine blk_alloc ?_ _)); refine blk_put (cs := #[.int .i64 0, .int .i64 0]) ?_ 0 _ rfl; exact Bz BK144⟩, ⟨by exact Lz2 HB GE139 GE144⟩⟩
            rw [if_neg c17] at H
            have c17b0 : (((rd_T57 l0_1 x17_2).f0) == (rd x3_2 x4_1)) = false := beq_eq_false_iff_ne.mpr c17
            have c17b1 : (((rd_T57 l0_1 x17_2).f0) != (rd x3_2 x4_1)) = true := bne_iff_ne.mpr c17
            have H' := Aside0.mk H
            clear H
            have hnb22 := NB144_139.out
            have hnc22 := NB139_144.out
            have hcz23_0 : w12.cell? ⟨gb144, 0, none⟩ = some (.int .i64 0) := (blk_cell BK144.out 0).trans rfl
            have hcz23_1 : w12.cell? ⟨gb144, 1, none⟩ = some (.int .i64 0) := (blk_cell BK144.out 1).trans rfl
            have hfz23_0 := blk_frozen BK144.out 0
            have hfz23_1 := blk_frozen BK144.out 1
            obtain ⟨Ao24, co24, eo24⟩ := Kd.R_slice HO_3.out
            subst eo24
            have p145 : 0 ≤ (x4_1 : Int) := ofA
            have q145 : x4_1 < (x3_2.length : Int) := ofA
            obtain ⟨ad145, e145, hx145_0⟩ := Kd.at_int (Kd.R_reads' HO_3.out).2.2 x4_1 p145 q145
            cases e145
            have hn145_0 : ad145.block ≠ gb144 := Kd.own_blk (Kd.R_ne HO_3.out BK144.out (by decide))
            have hn145_1 : ad145.block ≠ gb144 := Kd.own_blk (Kd.R_ne HO_3.out BK144.out (by decide))
            replace hx145_0 := (cell_far (p := ⟨gb144, 0, none⟩) (by first | (rw [add_block]; exact hn145_0) | (show (Addr.add _ _).block ≠ _; rw [add_block]; exact hn145_0) | exact hn145_0) (.int .i64 ((rd_T57 l0_1 x17_2).f0))).trans hx145_0
            replace hx145_0 := (cell_far (p := ⟨gb144, 1, none⟩) (by first | (rw [add_block]; exact hn145_1) | (show (Addr.add _ _).block ≠ _; rw [add_block]; exact hn145_1) | exact hn145_1) (.int .i64 ((rd_T57 l0_1 x17_2).f1))).trans hx145_0
            (try have hy145_0 := fun (n_ : Nat) => (show ((((w12.drewN n_).setCell ⟨gb144, 0, none⟩ (.int .i64 ((rd_T57 l0_1 x17_2).f0))).setCell ⟨gb144, 1, none⟩ (.int .i64 ((rd_T57 l0_1 x17_2).f1)))).cell? _ = some _ from hx145_0))
            clear hn145_0
            clear hn145_1
            replace p145 := eq_true p145
            replace q145 := eq_true q145
            go_wp2
            repeat (go_quiet (fail); try go_wp2)
            go_meet
            case rel => exact ⟨_, (false), eqA, H', ⟨by have := HK1.out; have := HK2.out; first | omega | exact Nat.le_refl _⟩, ⟨by (with_reducible repeat (first | apply Kd.R_alloc | apply Kd.R_drewN | apply Kd.R_drew)); exact Kd.R_mono (Kd.R_far (p := ⟨gb144, 1, none⟩) (Kd.R_far (p := ⟨gb144, 0, none⟩) (Kd.R_types HO_3.out BK144.out (by decide)) (fun _ hk => hk.2) (.int .i64 ((rd_T57 l0_1 x17_2).f0))) (fun _ hk => hk.2) (.int .i64 ((rd_T57 l0_1 x17_2).f1))) (fun _ hk => trivial)⟩, ⟨by (with_reducible repeat (first | refine blk_drewN ?_ _ | refine blk_drew ?_ | refine blk_alloc ?_ _)); refine blk_far ?_ NB139_144.out _; (with_reducible repeat (first | refine blk_drewN ?_ _ | refine blk_drew ?_ | refine blk_alloc ?_ _)); refine blk_far ?_ NB139_144.out _; exact Bz BK139⟩, ⟨by (with_reducible repeat (first | refine blk_drewN ?_ _ | refine blk_drew ?_ | refine blk_alloc ?_ _)); refine blk_put (cs := #[.int .i64 ((rd_T57 l0_1 x17_2).f0), .int .i64 0]) ?_ 1 _ rfl; (with_reducible repeat (first | refine blk_drewN ?_ _ | refine blk_drew ?_ | refine blk_alloc ?_ _)); refine blk_put (cs := #[.int .i64 0, .int .i64 0]) ?_ 0 _ rfl; exact Bz BK144⟩, ⟨by exact Lz2 HB GE139 GE144⟩⟩
           rw [if_neg c16] at H
           exact absurd H (by simp)
          rw [if_neg c15] at H
          exact absurd H (by simp)
         case rest =>
          clear HC11
          try clear c5
          try clear c5b0
          try clear c8
          try clear c8b0
          try clear c9
          try clear c9b0
          try clear c10
          try clear c10b0
          try clear c15
          try clear c15b0
          try clear c16
          try clear c16b0
          try clear c17
          try clear c17b0
          try clear c17b1
          try clear p143
          try clear p145
          try clear q143
          try clear q145
          obtain ⟨kq, x34_10, rfl, HA, HJ10, HO_3, BK139, BK144, HB⟩ := hcut
          cases kq with
          | zero => exact absurd HA.out (by simp [spec_l02Reach.j2])
          | succ kj10 =>
           have H := HA.out
           clear HA
           simp only [spec_l02Reach.j2] at H
           have HC25 := Aside0.mk H
           clear H
           go_upto_if 34 with (fail)
           repeat (go_quiet (fail); go_upto_if 34 with (fail))
           go_cut [3] (fun v3 wc => ∃ (kq : Nat) (x3_24 : List Int), Aside0 (spec_l02Reach.j3 kq x3_24 x4_1 l0_1 (l0_1.length : Int) x17_2 a0_0 l0_1 ((rd_T57 l0_1 x17_2).f0) ((rd_T57 l0_1 x17_2).f1) = some r) ∧ Aside0 (kq ≤ kj10) ∧ Aside0 (Kd.R (Kd.int .i64) 3 wc w.heap.size (fun _ => True) v3 x3_24) ∧ Aside0 (wc.heap[gb139]? = some (.cells #[.int .i64 a0_0, (.slice (some ad143) l0_1.length c0_1)] 30 (0, 0))) ∧ Aside0 (wc.heap[gb144]? = some (.cells #[.int .i64 ((rd_T57 l0_1 x17_2).f0), .int .i64 ((rd_T57 l0_1 x17_2).f1)] 57 (0, 0))) ∧ Aside0 (Below w.heap.size w wc))
           case first =>
            have H := HC25.out
            clear HC25
            by_cases c26 : x34_10 = true
            ·subst c26
             have H1 : (if x3_2.length < 17592186044416 then (spec_l02Reach.j3 kj10 (x3_2 ++ [((rd_T57 l0_1 x17_2).f1)]) x4_1 l0_1 (l0_1.length : Int) x17_2 a0_0 l0_1 ((rd_T57 l0_1 x17_2).f0) ((rd_T57 l0_1 x17_2).f1)) else (none)) = some r := by rw [if_pos rfl] at H; exact H
             clear H
             have H := H1
             clear H1
             by_cases c27 : x3_2.length < 17592186044416
             ·rw [if_pos c27] at H
              have LMc27 := Aside0.mk c27
              clear c27
              obtain ⟨y147, hy147⟩ : ∃ y_ : List Int, y_ = (x3_2 ++ [((rd_T57 l0_1 x17_2).f1)]) := ⟨_, rfl⟩
              replace H : (spec_l02Reach.j3 kj10 y147 x4_1 l0_1 (l0_1.length : Int) x17_2 a0_0 l0_1 ((rd_T57 l0_1 x17_2).f0) ((rd_T57 l0_1 x17_2).f1)) = some r := by first | (rw [hy147]; with_reducible exact H) | (have H2_ := (Option.bind_some _ _).symm.trans H; rw [hy147]; with_reducible exact H2_) | (have H2_ := (Option.bind_some _ _).symm.trans H; with_reducible exact H2_) | with_reducible exact H | (rw [hy147]; exact H) | exact H
              have Ny147 := Aside0.mk hy147
              clear hy147
              have H' := Aside0.mk H
              clear H
              have hnb28 := NB144_139.out
              have hnc28 := NB139_144.out
              have hcz29_0 : wc.cell? ⟨gb144, 0, none⟩ = some (.int .i64 ((rd_T57 l0_1 x17_2).f0)) := (blk_cell BK144.out 0).trans rfl
              have hcz29_1 : wc.cell? ⟨gb144, 1, none⟩ = some (.int .i64 ((rd_T57 l0_1 x17_2).f1)) := (blk_cell BK144.out 1).trans rfl
              have hfz29_0 := blk_frozen BK144.out 0
              have hfz29_1 := blk_frozen BK144.out 1
              go_wp2_with (first | ((with_reducible refine gate_builtin (b := .append) (xs := #[.tmp 35, .tmp 38]) rfl ?_); at_builtin; refine Kd.R_append (Kd.int .i64) (w0 := w) w.heap.size rfl (.tmp 35) (.tmp 38) 37 3 (.int .i64 0) 8 rfl Try.underlying37 info3 rfl (by decide) (by omega) u3 x3_2 ((rd_T57 l0_1 x17_2).f1) [.int .i64 ((rd_T57 l0_1 x17_2).f1)] (fun _ => True) (fun _ => False) rfl rfl ?aP (fun _ hk => hk.elim) ?aF ?aO ?aB ?aS ?aL ?_; (case aP => exact rfl); (case aB => exact (by exact Lz2 HB GE139 GE144)); (case aF => exact (fun _ _ => trivial)); (case aO => exact (Rz HO_3)); (case aS => exact (below_size (by exact Lz2 HB GE139 GE144))); (case aL => have := LMc27.out; omega); intro v148 w30 ho hb hg hat; rw [← Ny147.out] at ho; replace BK139 := Aside0.mk (blk_grown (g := gb139) (o := .cells #[.int .i64 a0_0, .slice (some ad143) l0_1.length c0_1] 30 (0, 0)) (Bz BK139) hg (Kd.R_ne HO_3.out BK139.out (by decide))); replace BK144 := Aside0.mk (blk_grown (g := gb144) (o := .cells #[.int .i64 ((rd_T57 l0_1 x17_2).f0), .int .i64 ((rd_T57 l0_1 x17_2).f1)] 57 (0, 0)) (Bz BK144) hg (Kd.R_ne HO_3.out BK144.out (by decide))); replace HB := Aside0.mk (hb); have HO149 := Aside0.mk (ho); clear HO_3; clear ho hb hg hat))
              repeat (go_quiet (first | ((with_reducible refine gate_builtin (b := .append) (xs := #[.tmp 35, .tmp 38]) rfl ?_); at_builtin; refine Kd.R_append (Kd.int .i64) (w0 := w) w.heap.size rfl (.tmp 35) (.tmp 38) 37 3 (.int .i64 0) 8 rfl Try.underlying37 info3 rfl (by decide) (by omega) u3 x3_2 ((rd_T57 l0_1 x17_2).f1) [.int .i64 ((rd_T57 l0_1 x17_2).f1)] (fun _ => True) (fun _ => False) rfl rfl ?aP (fun _ hk => hk.elim) ?aF ?aO ?aB ?aS ?aL ?_; (case aP => exact rfl); (case aB => exact (by exact Lz2 HB GE139 GE144)); (case aF => exact (fun _ _ => trivial)); (case aO => exact (Rz HO_3)); (case aS => exact (below_size (by exact Lz2 HB GE139 GE144))); (case aL => have := LMc27.out; omega); intro v148 w30 ho hb hg hat; rw [← Ny147.out] at ho; replace BK139 := Aside0.mk (blk_grown (g := gb139) (o := .cells #[.int .i64 a0_0, .slice (some ad143) l0_1.length c0_1] 30 (0, 0)) (Bz BK139) hg (Kd.R_ne HO_3.out BK139.out (by decide))); replace BK144 := Aside0.mk (blk_grown (g := gb144) (o := .cells #[.int .i64 ((rd_T57 l0_1 x17_2).f0), .int .i64 ((rd_T57 l0_1 x17_2).f1)] 57 (0, 0)) (Bz BK144) hg (Kd.R_ne HO_3.out BK144.out (by decide))); replace HB := Aside0.mk (hb); have HO149 := Aside0.mk (ho); clear HO_3; clear ho hb hg hat)); try go_wp2_with (first | ((with_reducible refine gate_builtin (b := .append) (xs := #[.tmp 35, .tmp 38]) rfl ?_); at_builtin; refine Kd.R_append (Kd.int .i64) (w0 := w) w.heap.size rfl (.tmp 35) (.tmp 38) 37 3 (.int .i64 0) 8 rfl Try.underlying37 info3 rfl (by decide) (by omega) u3 x3_2 ((rd_T57 l0_1 x17_2).f1) [.int .i64 ((rd_T57 l0_1 x17_2).f1)] (fun _ => True) (fun _ => False) rfl rfl ?aP (fun _ hk => hk.elim) ?aF ?aO ?aB ?aS ?aL ?_; (case aP => exact rfl); (case aB => exact (by exact Lz2 HB GE139 GE144)); (case aF => exact (fun _ _ => trivial)); (case aO => exact (Rz HO_3)); (case aS => exact (below_size (by exact Lz2 HB GE139 GE144))); (case aL => have := LMc27.out; omega); intro v148 w30 ho hb hg hat; rw [← Ny147.out] at ho; replace BK139 := Aside0.mk (blk_grown (g := gb139) (o := .cells #[.int .i64 a0_0, .slice (some ad143) l0_1.length c0_1] 30 (0, 0)) (Bz BK139) hg (Kd.R_ne HO_3.out BK139.out (by decide))); replace BK144 := Aside0.mk (blk_grown (g := gb144) (o := .cells #[.int .i64 ((rd_T57 l0_1 x17_2).f0), .int .i64 ((rd_T57 l0_1 x17_2).f1)] 57 (0, 0)) (Bz BK144) hg (Kd.R_ne HO_3.out BK144.out (by decide))); replace HB := Aside0.mk (hb); have HO149 := Aside0.mk (ho); clear HO_3; clear ho hb hg hat)))
              go_meet
              case rel => exact ⟨_, (y147), H', ⟨by have := HK1.out; have := HK2.out; have := HJ10.out; first | omega | exact Nat.le_refl _⟩, ⟨by exact Rz HO149⟩, ⟨by exact Bz BK139⟩, ⟨by exact Bz BK144⟩, ⟨by exact Lz2 HB GE139 GE144⟩⟩
             rw [if_neg c27] at H
             exact absurd H (by simp)
            replace c26 := Bool.eq_false_iff.mpr c26
            subst c26
            have H1 : (spec_l02Reach.j3 kj10 x3_2 x4_1 l0_1 (l0_1.length : Int) x17_2 a0_0 l0_1 ((rd_T57 l0_1 x17_2).f0) ((rd_T57 l0_1 x17_2).f1)) = some r := by rw [if_neg (show ¬ (false = true) by decide)] at H; exact H
            clear H
            have H := H1
            clear H1
            have H' := Aside0.mk H
            clear H
            go_wp2
            repeat (go_quiet (fail); try go_wp2)
            go_meet
            case rel => exact ⟨_, (x3_2), H', ⟨by have := HK1.out; have := HK2.out; have := HJ10.out; first | omega | exact Nat.le_refl _⟩, ⟨by exact Rz HO_3⟩, ⟨by exact Bz BK139⟩, ⟨by exact Bz BK144⟩, ⟨by exact Lz2 HB GE139 GE144⟩⟩
           case rest =>
            clear HC25
            try clear c5
            try clear c5b0
            try clear c8
            try clear c8b0
            try clear c9
            try clear c9b0
            try clear c10
            try clear c10b0
            try clear c15
            try clear c15b0
            try clear c16
            try clear c16b0
            try clear c17
            try clear c17b0
            try clear c17b1
            try clear c26
            try clear c27
            try clear p143
            try clear p145
            try clear q143
            try clear q145
            obtain ⟨kq, x3_24, HA, HJ24, HO_3, BK139, BK144, HB⟩ := hcut
            cases kq with
            | zero => exact absurd HA.out (by simp [spec_l02Reach.j3])
            | succ kj24 =>
             have H := HA.out
             clear HA
             simp only [spec_l02Reach.j3] at H
             by_cases c31 : 0 ≤ x4_1
             ·rw [if_pos c31] at H
              have c31b0 : decide (0 ≤ x4_1) = true := decide_eq_true c31
              clear c31
              by_cases c32 : x4_1 < (x3_24.length : Int)
              ·rw [if_pos c32] at H
               have c32b0 : decide (x4_1 < (x3_24.length : Int)) = true := decide_eq_true c32
               clear c32
               by_cases c33 : ((rd_T57 l0_1 x17_2).f1) = (rd x3_24 x4_1)
               ·rw [if_pos c33] at H
                have c33b0 : (((rd_T57 l0_1 x17_2).f1) == (rd x3_24 x4_1)) = true := beq_iff_eq.mpr c33
                have c33b1 : (((rd_T57 l0_1 x17_2).f1) != (rd x3_24 x4_1)) = false := bne_eq_false_iff_eq.mpr c33
                clear c33
                replace H := Option.bind_eq_some_iff.mp H
                obtain ⟨t151, A340, H⟩ := H
                replace H : (if t151 = true then (spec_l02Reach.l1 kj24 x3_24 x4_1 l0_1 (l0_1.length : Int) (wrap64 (x17_2 + 1)) a0_0 l0_1) else (if x3_24.length < 17592186044416 then (spec_l02Reach.l1 kj24 (x3_24 ++ [((rd_T57 l0_1 x17_2).f0)]) x4_1 l0_1 (l0_1.length : Int) (wrap64 (x17_2 + 1)) a0_0 l0_1) else (none))) = some r := H
                have A34 := Aside0.mk A340
                clear A340
                by_cases c35 : t151 = true
                ·subst c35
                 have H1 : (spec_l02Reach.l1 kj24 x3_24 x4_1 l0_1 (l0_1.length : Int) (wrap64 (x17_2 + 1)) a0_0 l0_1) = some r := by rw [if_pos rfl] at H; exact H
                 clear H
                 have H := H1
                 clear H1
                 have H' := Aside0.mk H
                 clear H
                 have hnb36 := NB144_139.out
                 have hnc36 := NB139_144.out
                 have hcz37_0 : wc.cell? ⟨gb144, 0, none⟩ = some (.int .i64 ((rd_T57 l0_1 x17_2).f0)) := (blk_cell BK144.out 0).trans rfl
                 have hcz37_1 : wc.cell? ⟨gb144, 1, none⟩ = some (.int .i64 ((rd_T57 l0_1 x17_2).f1)) := (blk_cell BK144.out 1).trans rfl
                 have hfz37_0 := blk_frozen BK144.out 0
                 have hfz37_1 := blk_frozen BK144.out 1
                 obtain ⟨Ao38, co38, eo38⟩ := Kd.R_slice HO_3.out
                 subst eo38
                 have p150 : 0 ≤ (x4_1 : Int) := ofA
                 have q150 : x4_1 < (x3_24.length : Int) := ofA
                 obtain ⟨ad150, e150, hx150_0⟩ := Kd.at_int (Kd.R_reads' HO_3.out).2.2 x4_1 p150 q150
                 cases e150
                 replace p150 := eq_true p150
                 replace q150 := eq_true q150
                 go_wp2_with (first | (go_at_call 92; (with_reducible refine (spec_l02Has.calls kj24 _ _ x3_24 ((rd_T57 l0_1 x17_2).f0) true _ ?side1 ?side2 A34.out).mono ?_); (case side1 => exact Cz ((Kd.R_reads' HO_3.out).2.2)); (case side2 => exact (Kd.R_reads' HO_3.out).2.1); rintro e w' ⟨rfl, ⟨nd, rfl⟩⟩; (try first | exact ⟨rfl, _, World.drewN_drewN _ _ _⟩ | exact ⟨rfl, _, Eq.trans (World.drewN_drewN _ _ _) (congrArg (World.drewN _) (Nat.add_assoc _ _ _))⟩)))
                 repeat (go_quiet (first | (go_at_call 92; (with_reducible refine (spec_l02Has.calls kj24 _ _ x3_24 ((rd_T57 l0_1 x17_2).f0) true _ ?side1 ?side2 A34.out).mono ?_); (case side1 => exact Cz ((Kd.R_reads' HO_3.out).2.2)); (case side2 => exact (Kd.R_reads' HO_3.out).2.1); rintro e w' ⟨rfl, ⟨nd, rfl⟩⟩; (try first | exact ⟨rfl, _, World.drewN_drewN _ _ _⟩ | exact ⟨rfl, _, Eq.trans (World.drewN_drewN _ _ _) (congrArg (World.drewN _) (Nat.add_assoc _ _ _))⟩))); try go_wp2_with (first | (go_at_call 92; (with_reducible refine (spec_l02Has.calls kj24 _ _ x3_24 ((rd_T57 l0_1 x17_2).f0) true _ ?side1 ?side2 A34.out).mono ?_); (case side1 => exact Cz ((Kd.R_reads' HO_3.out).2.2)); (case side2 => exact (Kd.R_reads' HO_3.out).2.1); rintro e w' ⟨rfl, ⟨nd, rfl⟩⟩; (try first | exact ⟨rfl, _, World.drewN_drewN _ _ _⟩ | exact ⟨rfl, _, Eq.trans (World.drewN_drewN _ _ _) (congrArg (World.drewN _) (Nat.add_assoc _ _ _))⟩))))
                 go_roundg kj24
                 case measure => have := HK1.out; have := HK2.out; have := HJ10.out; have := HJ24.out; omega
                 case rel => exact ⟨(x3_24), (wrap64 (x17_2 + 1)), eqA, H', ⟨by have := HK1.out; have := HK2.out; have := HJ10.out; have := HJ24.out; omega⟩, ⟨by exact Rz HO_3⟩, ⟨by exact Bz BK139⟩, ⟨by exact Lz2 HB GE139 GE144⟩⟩
                replace c35 := Bool.eq_false_iff.mpr c35
                subst c35
                have H1 : (if x3_24.length < 17592186044416 then (spec_l02Reach.l1 kj24 (x3_24 ++ [((rd_T57 l0_1 x17_2).f0)]) x4_1 l0_1 (l0_1.length : Int) (wrap64 (x17_2 + 1)) a0_0 l0_1) else (none)) = some r := by rw [if_neg (show ¬ (false = true) by decide)] at H; exact H
                clear H
                have H := H1
                clear H1
                by_cases c39 : x3_24.length < 17592186044416
                ·rw [if_pos c39] at H
                 have LMc39 := Aside0.mk c39
                 clear c39
                 obtain ⟨y152, hy152⟩ : ∃ y_ : List Int, y_ = (x3_24 ++ [((rd_T57 l0_1 x17_2).f0)]) := ⟨_, rfl⟩
                 replace H : (spec_l02Reach.l1 kj24 y152 x4_1 l0_1 (l0_1.length : Int) (wrap64 (x17_2 + 1)) a0_0 l0_1) = some r := by first | (rw [hy152]; with_reducible exact H) | (have H2_ := (Option.bind_some _ _).symm.trans H; rw [hy152]; with_reducible exact H2_) | (have H2_ := (Option.bind_some _ _).symm.trans H; with_reducible exact H2_) | with_reducible exact H | (rw [hy152]; exact H) | exact H
                 have Ny152 := Aside0.mk hy152
                 clear hy152
                 have H' := Aside0.mk H
                 clear H
                 have hnb40 := NB144_139.out
                 have hnc40 := NB139_144.out
                 have hcz41_0 : wc.cell? ⟨gb144, 0, none⟩ = some (.int .i64 ((rd_T57 l0_1 x17_2).f0)) := (blk_cell BK144.out 0).trans rfl
                 have hcz41_1 : wc.cell? ⟨gb144, 1, none⟩ = some (.int .i64 ((rd_T57 l0_1 x17_2).f1)) := (blk_cell BK144.out 1).trans rfl
                 have hfz41_0 := blk_frozen BK144.out 0
                 have hfz41_1 := blk_frozen BK144.out 1
                 obtain ⟨Ao42, co42, eo42⟩ := Kd.R_slice HO_3.out
                 subst eo42
                 have p150 : 0 ≤ (x4_1 : Int) := ofA
                 have q150 : x4_1 < (x3_24.length : Int) := ofA
                 obtain ⟨ad150, e150, hx150_0⟩ := Kd.at_int (Kd.R_reads' HO_3.out).2.2 x4_1 p150 q150
                 cases e150
                 replace p150 := eq_true p150
                 replace q150 := eq_true q150
                 go_wp2_with (first | (go_at_call 92; (with_reducible refine (spec_l02Has.calls kj24 _ _ x3_24 ((rd_T57 l0_1 x17_2).f0) false _ ?side1 ?side2 A34.out).mono ?_); (case side1 => exact Cz ((Kd.R_reads' HO_3.out).2.2)); (case side2 => exact (Kd.R_reads' HO_3.out).2.1); rintro e w' ⟨rfl, ⟨nd, rfl⟩⟩; (try first | exact ⟨rfl, _, World.drewN_drewN _ _ _⟩ | exact ⟨rfl, _, Eq.trans (World.drewN_drewN _ _ _) (congrArg (World.drewN _) (Nat.add_assoc _ _ _))⟩)) | ((with_reducible refine gate_builtin (b := .append) (xs := #[.tmp 54, .tmp 57]) rfl ?_); at_builtin; refine Kd.R_append (Kd.int .i64) (w0 := w) w.heap.size rfl (.tmp 54) (.tmp 57) 37 3 (.int .i64 0) 8 rfl Try.underlying37 info3 rfl (by decide) (by omega) (.slice (some ad150) x3_24.length co42) x3_24 ((rd_T57 l0_1 x17_2).f0) [.int .i64 ((rd_T57 l0_1 x17_2).f0)] (fun _ => True) (fun _ => False) rfl rfl ?aP (fun _ hk => hk.elim) ?aF ?aO ?aB ?aS ?aL ?_; (case aP => exact rfl); (case aB => exact (by exact Lz2 HB GE139 GE144)); (case aF => exact (fun _ _ => trivial)); (case aO => exact (Rz HO_3)); (case aS => exact (below_size (by exact Lz2 HB GE139 GE144))); (case aL => have := LMc39.out; omega); intro v153 w43 ho hb hg hat; rw [← Ny152.out] at ho; replace BK139 := Aside0.mk (blk_grown (g := gb139) (o := .cells #[.int .i64 a0_0, .slice (some ad143) l0_1.length c0_1] 30 (0, 0)) (Bz BK139) hg (Kd.R_ne HO_3.out BK139.out (by decide))); replace BK144 := Aside0.mk (blk_grown (g := gb144) (o := .cells #[.int .i64 ((rd_T57 l0_1 x17_2).f0), .int .i64 ((rd_T57 l0_1 x17_2).f1)] 57 (0, 0)) (Bz BK144) hg (Kd.R_ne HO_3.out BK144.out (by decide))); replace HB := Aside0.mk (hb); have HO154 := Aside0.mk (ho); clear HO_3; clear ho hb hg hat))
                 repeat (go_quiet (first | (go_at_call 92; (with_reducible refine (spec_l02Has.calls kj24 _ _ x3_24 ((rd_T57 l0_1 x17_2).f0) false _ ?side1 ?side2 A34.out).mono ?_); (case side1 => exact Cz ((Kd.R_reads' HO_3.out).2.2)); (case side2 => exact (Kd.R_reads' HO_3.out).2.1); rintro e w' ⟨rfl, ⟨nd, rfl⟩⟩; (try first | exact ⟨rfl, _, World.drewN_drewN _ _ _⟩ | exact ⟨rfl, _, Eq.trans (World.drewN_drewN _ _ _) (congrArg (World.drewN _) (Nat.add_assoc _ _ _))⟩)) | ((with_reducible refine gate_builtin (b := .append) (xs := #[.tmp 54, .tmp 57]) rfl ?_); at_builtin; refine Kd.R_append (Kd.int .i64) (w0 := w) w.heap.size rfl (.tmp 54) (.tmp 57) 37 3 (.int .i64 0) 8 rfl Try.underlying37 info3 rfl (by decide) (by omega) (.slice (some ad150) x3_24.length co42) x3_24 ((rd_T57 l0_1 x17_2).f0) [.int .i64 ((rd_T57 l0_1 x17_2).f0)] (fun _ => True) (fun _ => False) rfl rfl ?aP (fun _ hk => hk.elim) ?aF ?aO ?aB ?aS ?aL ?_; (case aP => exact rfl); (case aB => exact (by exact Lz2 HB GE139 GE144)); (case aF => exact (fun _ _ => trivial)); (case aO => exact (Rz HO_3)); (case aS => exact (below_size (by exact Lz2 HB GE139 GE144))); (case aL => have := LMc39.out; omega); intro v153 w43 ho hb hg hat; rw [← Ny152.out] at ho; replace BK139 := Aside0.mk (blk_grown (g := gb139) (o := .cells #[.int .i64 a0_0, .slice (some ad143) l0_1.length c0_1] 30 (0, 0)) (Bz BK139) hg (Kd.R_ne HO_3.out BK139.out (by decide))); replace BK144 := Aside0.mk (blk_grown (g := gb144) (o := .cells #[.int .i64 ((rd_T57 l0_1 x17_2).f0), .int .i64 ((rd_T57 l0_1 x17_2).f1)] 57 (0, 0)) (Bz BK144) hg (Kd.R_ne HO_3.out BK144.out (by decide))); replace HB := Aside0.mk (hb); have HO154 := Aside0.mk (ho); clear HO_3; clear ho hb hg hat)); try go_wp2_with (first | (go_at_call 92; (with_reducible refine (spec_l02Has.calls kj24 _ _ x3_24 ((rd_T57 l0_1 x17_2).f0) false _ ?side1 ?side2 A34.out).mono ?_); (case side1 => exact Cz ((Kd.R_reads' HO_3.out).2.2)); (case side2 => exact (Kd.R_reads' HO_3.out).2.1); rintro e w' ⟨rfl, ⟨nd, rfl⟩⟩; (try first | exact ⟨rfl, _, World.drewN_drewN _ _ _⟩ | exact ⟨rfl, _, Eq.trans (World.drewN_drewN _ _ _) (congrArg (World.drewN _) (Nat.add_assoc _ _ _))⟩)) | ((with_reducible refine gate_builtin (b := .append) (xs := #[.tmp 54, .tmp 57]) rfl ?_); at_builtin; refine Kd.R_append (Kd.int .i64) (w0 := w) w.heap.size rfl (.tmp 54) (.tmp 57) 37 3 (.int .i64 0) 8 rfl Try.underlying37 info3 rfl (by decide) (by omega) (.slice (some ad150) x3_24.length co42) x3_24 ((rd_T57 l0_1 x17_2).f0) [.int .i64 ((rd_T57 l0_1 x17_2).f0)] (fun _ => True) (fun _ => False) rfl rfl ?aP (fun _ hk => hk.elim) ?aF ?aO ?aB ?aS ?aL ?_; (case aP => exact rfl); (case aB => exact (by exact Lz2 HB GE139 GE144)); (case aF => exact (fun _ _ => trivial)); (case aO => exact (Rz HO_3)); (case aS => exact (below_size (by exact Lz2 HB GE139 GE144))); (case aL => have := LMc39.out; omega); intro v153 w43 ho hb hg hat; rw [← Ny152.out] at ho; replace BK139 := Aside0.mk (blk_grown (g := gb139) (o := .cells #[.int .i64 a0_0, .slice (some ad143) l0_1.length c0_1] 30 (0, 0)) (Bz BK139) hg (Kd.R_ne HO_3.out BK139.out (by decide))); replace BK144 := Aside0.mk (blk_grown (g := gb144) (o := .cells #[.int .i64 ((rd_T57 l0_1 x17_2).f0), .int .i64 ((rd_T57 l0_1 x17_2).f1)] 57 (0, 0)) (Bz BK144) hg (Kd.R_ne HO_3.out BK144.out (by decide))); replace HB := Aside0.mk (hb); have HO154 := Aside0.mk (ho); clear HO_3; clear ho hb hg hat)))
                 go_roundg kj24
                 case measure => have := HK1.out; have := HK2.out; have := HJ10.out; have := HJ24.out; omega
                 case rel => exact ⟨(y152), (wrap64 (x17_2 + 1)), eqA, H', ⟨by have := HK1.out; have := HK2.out; have := HJ10.out; have := HJ24.out; omega⟩, ⟨by exact Rz HO154⟩, ⟨by exact Bz BK139⟩, ⟨by exact Lz2 HB GE139 GE144⟩⟩
                rw [if_neg c39] at H
                exact absurd H (by simp)
               rw [if_neg c33] at H
               have c33b0 : (((rd_T57 l0_1 x17_2).f1) == (rd x3_24 x4_1)) = false := beq_eq_false_iff_ne.mpr c33
               have c33b1 : (((rd_T57 l0_1 x17_2).f1) != (rd x3_24 x4_1)) = true := bne_iff_ne.mpr c33
               have H' := Aside0.mk H
               clear H
               have hnb44 := NB144_139.out
               have hnc44 := NB139_144.out
               have hcz45_0 : wc.cell? ⟨gb144, 0, none⟩ = some (.int .i64 ((rd_T57 l0_1 x17_2).f0)) := (blk_cell BK144.out 0).trans rfl
               have hcz45_1 : wc.cell? ⟨gb144, 1, none⟩ = some (.int .i64 ((rd_T57 l0_1 x17_2).f1)) := (blk_cell BK144.out 1).trans rfl
               have hfz45_0 := blk_frozen BK144.out 0
               have hfz45_1 := blk_frozen BK144.out 1
               obtain ⟨Ao46, co46, eo46⟩ := Kd.R_slice HO_3.out
               subst eo46
               have p150 : 0 ≤ (x4_1 : Int) := ofA
               have q150 : x4_1 < (x3_24.length : Int) := ofA
               obtain ⟨ad150, e150, hx150_0⟩ := Kd.at_int (Kd.R_reads' HO_3.out).2.2 x4_1 p150 q150
               cases e150
               replace p150 := eq_true p150
               replace q150 := eq_true q150
               go_wp2
               repeat (go_quiet (fail); try go_wp2)
               go_roundg kj24
               case measure => have := HK1.out; have := HK2.out; have := HJ10.out; have := HJ24.out; omega
               case rel => exact ⟨(x3_24), (wrap64 (x17_2 + 1)), eqA, H', ⟨by have := HK1.out; have := HK2.out; have := HJ10.out; have := HJ24.out; omega⟩, ⟨by exact Rz HO_3⟩, ⟨by exact Bz BK139⟩, ⟨by exact Lz2 HB GE139 GE144⟩⟩
              rw [if_neg c32] at H
              exact absurd H (by simp)
             rw [if_neg c31] at H
             exact absurd H (by simp)
        rw [if_neg c10] at H
        exact absurd H (by simp)
       rw [if_neg c9] at H
       exact absurd H (by simp)
      rw [if_neg c8] at H
      have c8b0 : decide (x17_2 < (l0_1.length : Int)) = false := decide_eq_false c8
      clear c8
      have H' := Aside0.mk H
      clear H
      go_wp2
      repeat (go_quiet (fail); try go_wp2)
      go_roundg k2
      case measure => have := HK1.out; have := HK2.out; omega
      case rel => exact ⟨(x3_2), (wrap64 (x4_1 + 1)), eqA, H', ⟨by have := HK1.out; have := HK2.out; omega⟩, ⟨by exact Rz HO_3⟩, ⟨by exact Bz BK139⟩, ⟨by exact Lz1 HB GE139⟩⟩
   rw [if_neg c5] at H
   have c5b0 : decide (x4_1 < (x3_1.length : Int)) = false := decide_eq_false c5
   clear c5
   obtain rfl := Option.some.inj H
   obtain ⟨Ao47, co47, eo47⟩ := Kd.R_slice HO_3.out
   subst eo47
   go_wp2
   repeat (go_quiet (fail); try go_wp2)
   go_ret
   exact ⟨_, by first | rfl | (simp [errW_none, errW_some] <;> rfl) | (simp [*, errW_none, errW_some] <;> rfl), by exact Rz HO_3, by exact Lz1 HB GE139⟩
mutual
def spec_GraphOk.l0 : Nat → List (S57) → Int → Int → Int → List (S57) → Option (Bool)
 | 0, _, _, _, _, _ => none
 | k + 1, x9, x10, x11, x156000, x156001 => if x11 < x10 then (if 0 ≤ x11 then (if x11 < (x9.length : Int) then (if x11 > 0 then (if 0 ≤ (wrap64 (x11 - 1)) then (if (wrap64 (x11 - 1)) < (x156001.length : Int) then (if ((rd_T57 x9 x11).f0) < ((rd_T57 x156001 (wrap64 (x11 - 1))).f0) then (spec_GraphOk.j1 k x9 x10 x11 true x156000 x156001) else (if ((rd_T57 x9 x11).f0) = ((rd_T57 x156001 (wrap64 (x11 - 1))).f0) then (spec_GraphOk.j1 k x9 x10 x11 (decide (((rd_T57 x9 x11).f1) < ((rd_T57 x156001 (wrap64 (x11 - 1))).f1))) x156000 x156001) else (spec_GraphOk.j1 k x9 x10 x11 false x156000 x156001))) else (none)) else (none)) else (spec_GraphOk.j1 k x9 x10 x11 false x156000 x156001)) else (none)) else (none)) else ((spec_l02Reach.f k x156000 x156001).bind fun t157 => (some ((t157.length : Int) == x156000)))
def spec_GraphOk.j1 : Nat → List (S57) → Int → Int → Bool → Int → List (S57) → Option (Bool)
 | 0, _, _, _, _, _, _ => none
 | k + 1, x9, x10, x11, x53, x156000, x156001 => if x53 = true then (some false) else (spec_GraphOk.l0 k x9 x10 (wrap64 (x11 + 1)) x156000 x156001)
end
def spec_GraphOk.f (k : Nat) (a0_0 : Int) (l0_1 : List (S57)) : Option (Bool) := (spec_EdgesOk.f k a0_0 l0_1).bind fun t156 => (if t156 = true then (spec_GraphOk.l0 k l0_1 (l0_1.length : Int) 0 a0_0 l0_1) else (some false))
def spec_GraphOk.T6 : Bool × List (List Nat × List Nat) := (true, [([], []), ([0], [0]), ([1], [1]), ([2], [2]), ([3, 2], [2, 3]), ([2], [2]), ([5, 2], [2, 5]), ([2], [2]), ([7, 2], [2, 7]), ([6, 8, 2], [2, 6, 8]), ([9, 2], [2, 9]), ([10, 2], [2, 10]), ([4, 11, 2], [2, 4, 11]), ([12, 2, 2], [2, 12]), ([13], [13]), ([14, 13], [13, 14]), ([13], [13]), ([16, 13], [13, 16]), ([13], [13]), ([18, 13], [13, 18]), ([17, 19, 13], [13, 17, 19]), ([20, 13], [13, 20]), ([21, 13], [13, 21]), ([15, 22, 13], [13, 15, 22]), ([23, 13, 13], [13, 23]), ([24], [24]), ([25, 24], [24, 25]), ([24], [24]), ([27, 24], [24, 27]), ([24], [24]), ([29, 24], [24, 29]), ([28, 30, 24], [24, 28, 30]), ([31, 24], [24, 31]), ([32, 24], [24, 32]), ([26, 33, 24], [24, 26, 33]), ([24, 34, 13], [13, 24, 34]), ([13, 35, 2], [2, 13, 35]), ([2, 36], [2, 36])])
def spec_GraphOk.B6 : List Nat := [0, 1, 3, 7, 15, 7, 39, 7, 135, 487, 999, 2023, 4095, 8191, 16383, 32767, 16383, 81919, 16383, 278527, 999423, 2047999, 4145151, 8388607, 16777215, 33554431, 67108863, 33554431, 167772159, 33554431, 570425343, 2046820351, 4194303999, 8489271295, 17179869183, 34359738367, 68719476735, 137438953471]
theorem spec_GraphOk.tab6 : rtab .any (opsOf Try.f47 6) = spec_GraphOk.T6 := by kernel_rfl
theorem spec_GraphOk.bits6 : waitsOk spec_GraphOk.T6.2 spec_GraphOk.B6 = true := by kernel_rfl
set_option maxHeartbeats 8000000 in
set_option maxRecDepth 100000 in
theorem spec_GraphOk.calls (k : Nat) (a0_0 : Int) (A0_1 : Option Addr) (c0_1 : Nat) (l0_1 : List (S57)) (r : Bool) (w : World) (hr0_1 : Kd.C k57 w A0_1 l0_1.length l0_1) (hc0_1 : l0_1.length ≤ c0_1) (h : spec_GraphOk.f k a0_0 l0_1 = some r) :
  Calls Try.prog 47 #[.agg #[.int .i64 a0_0, .slice A0_1 l0_1.length c0_1]] w fun e w' => e = .returned (.bool r) ∧ Below w.heap.size w w' := by
 have hu30 := Try.underlying30
 have hu57 := Try.underlying57
 have HR0_1 := Aside0.mk hr0_1
 have HC0_1 := Aside0.mk hc0_1
 clear hr0_1 hc0_1
 have HB := Aside0.mk (Below.refl w.heap.size w)
 have H : ((spec_EdgesOk.f k a0_0 l0_1).bind fun t156 => (if t156 = true then (spec_GraphOk.l0 k l0_1 (l0_1.length : Int) 0 a0_0 l0_1) else (some false))) = some r := h
 clear h
 replace H := Option.bind_eq_some_iff.mp H
 obtain ⟨t156, A20, H⟩ := H
 replace H : (if t156 = true then (spec_GraphOk.l0 k l0_1 (l0_1.length : Int) 0 a0_0 l0_1) else (some false)) = some r := H
 have A2 := Aside0.mk A20
 clear A20
 by_cases c3 : t156 = true
 ·subst c3
  have H1 : (spec_GraphOk.l0 k l0_1 (l0_1.length : Int) 0 a0_0 l0_1) = some r := by rw [if_pos rfl] at H; exact H
  clear H
  have H := H1
  clear H1
  have H' := Aside0.mk H
  clear H
  go_enter Try.func47, Try.ntmps47
  go_wp2_with (first | ((with_reducible refine gate_dst (N := 1) rfl ?_); refine box_event ?hg (N := 1) ?hd (cs := #[.int .i64 a0_0, .slice A0_1 l0_1.length c0_1]) (t := 30) ?hr ?_; (case hd => rfl); (case hg => rfl); (case hr => first | (go_simp; done) | (go_simp; rfl)); intro gb155 hg w4 hbox hb; have BK155 := Aside0.mk (hbox); have GW155 := Aside0.mk ((by rw [hg]; exact (below_size (Lz HB)) : w.heap.size ≤ gb155)); have GE155 := Aside0.mk ((by rw [hg]; exact (below_size (Lz HB)) : w.heap.size ≤ gb155)); replace HB := Aside0.mk (below_step (Lz HB) hb); clear hb hbox hg; have hcz5_0 : w4.cell? ⟨gb155, 0, none⟩ = some (.int .i64 a0_0) := (blk_cell BK155.out 0).trans rfl; have hcz5_1 : w4.cell? ⟨gb155, 1, none⟩ = some (.slice A0_1 l0_1.length c0_1) := (blk_cell BK155.out 1).trans rfl; have hfz5_0 := blk_frozen BK155.out 0; have hfz5_1 := blk_frozen BK155.out 1) | ((with_reducible refine gate_callee (f := 80) rfl ?_); refine goesM_ (some 6) rfl rfl Try.func80 (by kernel_rfl) rfl #[.agg #[.int .i64 a0_0, .slice A0_1 l0_1.length c0_1]] rfl ?_; (with_reducible refine (spec_EdgesOk.calls k a0_0 _ _ l0_1 true _ ?side1 ?side2 A2.out).mono ?_); (case side1 => exact Cz ((Kd.C_below HR0_1.out HB.out))); (case side2 => exact HC0_1.out); rintro e w6 ⟨rfl, hb⟩; refine ⟨_, rfl, ?_⟩; replace BK155 := Aside0.mk (blk_below (g := gb155) (o := .cells #[.int .i64 a0_0, .slice A0_1 l0_1.length c0_1] 30 (0, 0)) (Bz BK155) hb); replace HB := Aside0.mk (below_step (by exact Lz1 HB GE155) hb); (try clear hb); (try clear hb2); (try clear hk); (try clear hi); have hcz7_0 : w6.cell? ⟨gb155, 0, none⟩ = some (.int .i64 a0_0) := (blk_cell BK155.out 0).trans rfl; have hcz7_1 : w6.cell? ⟨gb155, 1, none⟩ = some (.slice A0_1 l0_1.length c0_1) := (blk_cell BK155.out 1).trans rfl; have hfz7_0 := blk_frozen BK155.out 0; have hfz7_1 := blk_frozen BK155.out 1))
  go_loopg [11] k (fun kq v11 w' => ∃ (x11_1 : Int), v11 = .int .i64 x11_1 ∧ Aside0 (spec_GraphOk.l0 kq l0_1 (l0_1.length : Int) x11_1 a0_0 l0_1 = some r) ∧ Aside0 (kq ≤ k) ∧ Aside0 (w'.heap[gb155]? = some (.cells #[.int .i64 a0_0, (.slice A0_1 l0_1.length c0_1)] 30 (0, 0))) ∧ Aside0 (Below w.heap.size w w'))
  case atStart => exact ⟨(0), eqA, H', ⟨Nat.le_refl _⟩, ⟨by exact Bz BK155⟩, ⟨by exact Lz1 HB GE155⟩⟩
  case round =>
   clear H'
   try clear c3
   obtain ⟨x11_1, rfl, HA, HK1, BK155, HB⟩ := hrel
   cases gk with
   | zero => exact absurd HA.out (by simp [spec_GraphOk.l0])
   | succ k1 =>
    have H := HA.out
    clear HA
    simp only [spec_GraphOk.l0] at H
    by_cases c8 : x11_1 < (l0_1.length : Int)
    ·rw [if_pos c8] at H
     have c8b0 : decide (x11_1 < (l0_1.length : Int)) = true := decide_eq_true c8
     clear c8
     by_cases c9 : 0 ≤ x11_1
     ·rw [if_pos c9] at H
      have c9b0 : decide (0 ≤ x11_1) = true := decide_eq_true c9
      clear c9
      by_cases c10 : x11_1 < (l0_1.length : Int)
      ·rw [if_pos c10] at H
       have c10b0 : decide (x11_1 < (l0_1.length : Int)) = true := decide_eq_true c10
       clear c10
       have HC11 := Aside0.mk H
       clear H
       have p160 : 0 ≤ (x11_1 : Int) := ofA
       have q160 : x11_1 < (l0_1.length : Int) := ofA
       obtain ⟨ad160, e160, hx160_0, hx160_1⟩ := at_T57 HR0_1.out x11_1 p160 q160
       cases e160
       replace hx160_0 := (HB.out.cell (World.block_lt_of_cell? w _ hx160_0)).trans hx160_0
       replace hx160_1 := (HB.out.cell (World.block_lt_of_cell? w _ hx160_1)).trans hx160_1
       replace p160 := eq_true p160
       replace q160 := eq_true q160
       go_upto_region 6 with (first | ((with_reducible refine gate_dst (N := 4) rfl ?_); refine box_event ?hg (N := 4) ?hd (cs := #[.int .i64 0, .int .i64 0]) (t := 57) ?hr ?_; (case hd => rfl); (case hg => rfl); (case hr => first | (go_simp; done) | (go_simp; rfl)); intro gb161 hg w12 hbox hb; have BK161 := Aside0.mk (hbox); have GW161 := Aside0.mk ((by rw [hg]; exact (below_size (by exact Lz1 HB GE155)) : w.heap.size ≤ gb161)); have GE161 := Aside0.mk ((by rw [hg]; exact (below_size (by exact Lz1 HB GE155)) : w.heap.size ≤ gb161)); replace HB := Aside0.mk (below_step (by exact Lz1 HB GE155) hb); have NB155_161 := Aside0.mk ((by rw [hg]; exact Nat.ne_of_lt (blk_lt (g := gb155) (o := .cells #[.int .i64 a0_0, .slice (some ad160) l0_1.length c0_1] 30 (0, 0)) (Bz BK155)) : gb155 ≠ gb161)); have NB161_155 := Aside0.mk ((by rw [hg]; exact Nat.ne_of_gt (blk_lt (g := gb155) (o := .cells #[.int .i64 a0_0, .slice (some ad160) l0_1.length c0_1] 30 (0, 0)) (Bz BK155)) : gb161 ≠ gb155)); replace BK155 := Aside0.mk (blk_below (g := gb155) (o := .cells #[.int .i64 a0_0, .slice (some ad160) l0_1.length c0_1] 30 (0, 0)) (Bz BK155) hb); clear hb hbox hg; have hnb13 := NB161_155.out; have hnc13 := NB155_161.out; have hcz14_0 : w12.cell? ⟨gb161, 0, none⟩ = some (.int .i64 0) := (blk_cell BK161.out 0).trans rfl; have hcz14_1 : w12.cell? ⟨gb161, 1, none⟩ = some (.int .i64 0) := (blk_cell BK161.out 1).trans rfl; have hfz14_0 := blk_frozen BK161.out 0; have hfz14_1 := blk_frozen BK161.out 1))
       (try simp only [Act.put, List.setIfInBounds_toArray, List.set_cons_zero, List.set_cons_succ])
       go_cut [53] (fun v53 wc => ∃ (kq : Nat) (x53_10 : Bool), v53 = .bool x53_10 ∧ Aside0 (spec_GraphOk.j1 kq l0_1 (l0_1.length : Int) x11_1 x53_10 a0_0 l0_1 = some r) ∧ Aside0 (kq ≤ k1) ∧ Aside0 (wc.heap[gb155]? = some (.cells #[.int .i64 a0_0, (.slice (some ad160) l0_1.length c0_1)] 30 (0, 0))) ∧ Aside0 (wc.heap[gb161]? = some (.cells #[.int .i64 ((rd_T57 l0_1 x11_1).f0), .int .i64 ((rd_T57 l0_1 x11_1).f1)] 57 (0, 0))) ∧ Aside0 (Below w.heap.size w wc))
       case first =>
        have H := HC11.out
        clear HC11
        by_cases c15 : x11_1 > 0
        ·rw [if_pos c15] at H
         have c15b0 : decide (0 < x11_1) = true := decide_eq_true c15
         clear c15
         (first | rw [c15b0] | (simp only [i64_w, i32_w]; rw [c15b0]) | skip)
         obtain ⟨ji16, hji16⟩ : ∃ j_ : Int, (wrap64 (x11_1 - 1)) = j_ := ⟨_, rfl⟩
         replace H : (if 0 ≤ (ji16) then (if (ji16) < (l0_1.length : Int) then (if ((rd_T57 l0_1 x11_1).f0) < ((rd_T57 l0_1 (ji16)).f0) then (spec_GraphOk.j1 k1 l0_1 (l0_1.length : Int) x11_1 true a0_0 l0_1) else (if ((rd_T57 l0_1 x11_1).f0) = ((rd_T57 l0_1 (ji16)).f0) then (spec_GraphOk.j1 k1 l0_1 (l0_1.length : Int) x11_1 (decide (((rd_T57 l0_1 x11_1).f1) < ((rd_T57 l0_1 (ji16)).f1))) a0_0 l0_1) else (spec_GraphOk.j1 k1 l0_1 (l0_1.length : Int) x11_1 false a0_0 l0_1))) else (none)) else (none)) = some r := by first | (rw [hji16] at H; exact H) | (simp only [hji16] at H ⊢; exact H)
         have hji16w : (IntKind.i64.wrap (x11_1 - 1)) = ji16 := (i64_w _).trans hji16
         by_cases c17 : 0 ≤ (ji16)
         ·rw [if_pos c17] at H
          have c17b0 : decide (0 ≤ (ji16)) = true := decide_eq_true c17
          clear c17
          by_cases c18 : (ji16) < (l0_1.length : Int)
          ·rw [if_pos c18] at H
           have c18b0 : decide ((ji16) < (l0_1.length : Int)) = true := decide_eq_true c18
           clear c18
           by_cases c19 : ((rd_T57 l0_1 x11_1).f0) < ((rd_T57 l0_1 (ji16)).f0)
           ·rw [if_pos c19] at H
            have c19b0 : decide (((rd_T57 l0_1 x11_1).f0) < ((rd_T57 l0_1 (ji16)).f0)) = true := decide_eq_true c19
            clear c19
            have H' := Aside0.mk H
            clear H
            try go_wp2
            have n0_ : Aside0 (((w12.setCell ⟨gb161, 0, none⟩ (.int .i64 ((rd_T57 l0_1 x11_1).f0))).setCell ⟨gb161, 1, none⟩ (.int .i64 ((rd_T57 l0_1 x11_1).f1))).heap[gb155]? = some (.cells #[.int .i64 a0_0, .slice (some ad160) l0_1.length c0_1] 30 (0, 0))) := ⟨by (with_reducible repeat (first | refine blk_drewN ?_ _ | refine blk_drew ?_ | refine blk_alloc ?_ _)); refine blk_far ?_ NB155_161.out _; (with_reducible repeat (first | refine blk_drewN ?_ _ | refine blk_drew ?_ | refine blk_alloc ?_ _)); refine blk_far ?_ NB155_161.out _; exact Bz BK155⟩
            have n1_ : Aside0 (((w12.setCell ⟨gb161, 0, none⟩ (.int .i64 ((rd_T57 l0_1 x11_1).f0))).setCell ⟨gb161, 1, none⟩ (.int .i64 ((rd_T57 l0_1 x11_1).f1))).heap[gb161]? = some (.cells #[.int .i64 ((rd_T57 l0_1 x11_1).f0), .int .i64 ((rd_T57 l0_1 x11_1).f1)] 57 (0, 0))) := ⟨by (with_reducible repeat (first | refine blk_drewN ?_ _ | refine blk_drew ?_ | refine blk_alloc ?_ _)); refine blk_put (cs := #[.int .i64 ((rd_T57 l0_1 x11_1).f0), .int .i64 0]) ?_ 1 _ rfl; (with_reducible repeat (first | refine blk_drewN ?_ _ | refine blk_drew ?_ | refine blk_alloc ?_ _)); refine blk_put (cs := #[.int .i64 0, .int .i64 0]) ?_ 0 _ rfl; exact Bz BK161⟩
            have n2_ : Aside0 (Below w.heap.size w ((w12.setCell ⟨gb161, 0, none⟩ (.int .i64 ((rd_T57 l0_1 x11_1).f0))).setCell ⟨gb161, 1, none⟩ (.int .i64 ((rd_T57 l0_1 x11_1).f1)))) := ⟨by exact Lz2 HB GE155 GE161⟩
            (try clear BK155)
            (try clear BK161)
            (try clear HB)
            generalize ((w12.setCell ⟨gb161, 0, none⟩ (.int .i64 ((rd_T57 l0_1 x11_1).f0))).setCell ⟨gb161, 1, none⟩ (.int .i64 ((rd_T57 l0_1 x11_1).f1))) = w20 at n0_ n1_ n2_ ⊢
            have BK155 := n0_
            have BK161 := n1_
            have HB := n2_
            clear n0_ n1_ n2_
            replace BK155 := Aside0.mk (blk_drew BK155.out)
            replace BK161 := Aside0.mk (blk_drew BK161.out)
            replace HB := Aside0.mk (below_drew1 HB.out)
            have p162 : 0 ≤ ((ji16) : Int) := ofA
            have q162 : (ji16) < (l0_1.length : Int) := ofA
            obtain ⟨ad162, e162, hx162_0, hx162_1⟩ := at_T57 HR0_1.out (ji16) p162 q162
            have hw162_1 := hx162_1
            have hw162_0 := hx162_0
            obtain rfl : ad160 = ad162 := (by injection e162)
            replace hx162_0 := (HB.out.cell (World.block_lt_of_cell? w _ hx162_0)).trans hx162_0
            replace hx162_1 := (HB.out.cell (World.block_lt_of_cell? w _ hx162_1)).trans hx162_1
            replace p162 := eq_true p162
            replace q162 := eq_true q162
            refine start_ (n := 38) (S := fun w' => w'.cell? ⟨gb161, 0, none⟩ = some (.int .i64 ((rd_T57 l0_1 x11_1).f0)) ∧ w'.cell? ⟨gb161, 1, none⟩ = some (.int .i64 ((rd_T57 l0_1 x11_1).f1)) ∧ w'.cell? ⟨gb155, 0, none⟩ = some (.int .i64 a0_0) ∧ w'.cell? ⟨gb155, 1, none⟩ = some (.slice (some ad160) l0_1.length c0_1) ∧ w'.cell? (ad160.add (((ji16)).toNat * 2)) = some (.int .i64 ((rd_T57 l0_1 (ji16)).f0)) ∧ w'.cell? ⟨(ad160.add (((ji16)).toNat * 2)).block, (ad160.add (((ji16)).toNat * 2)).off + 1, none⟩ = some (.int .i64 ((rd_T57 l0_1 (ji16)).f1))) (ds := []) #[false, false, false, false, false, false, false, false, false, false, false, false, false, false, false, false, false, false, false, false, false, false, false, false, false, false, false, false, false, false, false, false, false, false, false, false, false, false] (by kernel_rfl) rfl rfl ⟨(blk_cell BK161.out 0).trans rfl, (blk_cell BK161.out 1).trans rfl, (blk_cell BK155.out 0).trans rfl, (blk_cell BK155.out 1).trans rfl, ((HB.out.cell (World.block_lt_of_cell? w _ hw162_0)).trans hw162_0), ((HB.out.cell (World.block_lt_of_cell? w _ hw162_1)).trans hw162_1)⟩ (fun hHeld => ?_); refine with_tabW spec_GraphOk.tab6 spec_GraphOk.bits6 (fun HT_ HW_ => ?_)
            generalize w20.drew = w21 at BK155 BK161 HB hx162_0 hx162_1 hHeld ⊢
            refine pureT_ 0 16 HT_ ?_
            refine pureT_ 1 17 HT_ ?_
            refine pureT_ 2 18 HT_ ?_
            refine pureT_ 3 19 HT_ ?_
            refine pureT_ 5 21 HT_ ?_
            refine pureT_ 7 23 HT_ ?_
            refine pureT_ 8 24 HT_ ?_
            refine takeT_ 4 20 HT_ HW_ hHeld rfl (by rintro w' ⟨s0, s1, s2, s3, s4, s5⟩; go_simp; with_reducible rfl) ?_
            refine takeT_ 6 22 HT_ HW_ hHeld rfl (by rintro w' ⟨s0, s1, s2, s3, s4, s5⟩; go_simp; with_reducible rfl) ?_
            refine pureT_ 9 25 HT_ ?_
            refine pureT_ 10 26 HT_ ?_
            refine takeT_ 11 27 HT_ HW_ hHeld rfl (by rintro w' ⟨s0, s1, s2, s3, s4, s5⟩; go_simp; with_reducible rfl) ?_
            refine pureT_ 12 28 HT_ ?_
            refine pureT_ 13 29 HT_ ?_
            refine pureU_ 14 30 HT_ ?_
            refine pureU_ 15 31 HT_ ?_
            refine pureU_ 16 32 HT_ ?_
            refine pureU_ 17 33 HT_ ?_
            refine pureU_ 18 34 HT_ ?_
            refine pureU_ 19 35 HT_ ?_
            refine pureU_ 20 36 HT_ ?_
            refine pureU_ 21 37 HT_ ?_
            refine pureU_ 22 38 HT_ ?_
            refine pureU_ 23 39 HT_ ?_
            refine pureU_ 24 40 HT_ ?_
            refine pureU_ 25 41 HT_ ?_
            refine pureU_ 26 42 HT_ ?_
            refine pureU_ 27 43 HT_ ?_
            refine pureU_ 28 44 HT_ ?_
            refine pureU_ 29 45 HT_ ?_
            refine pureU_ 30 46 HT_ ?_
            refine pureU_ 31 47 HT_ ?_
            refine pureU_ 32 48 HT_ ?_
            refine pureU_ 33 49 HT_ ?_
            refine pureU_ 34 50 HT_ ?_
            refine pureU_ 35 51 HT_ ?_
            refine pureT_ 36 52 HT_ ?_
            refine pureT_ 37 53 HT_ ?_
            refine done_ (done_of HT_.out (by kernel_rfl)) ?_
            try go_wp2
            go_meet
            case rel => exact ⟨_, (true), eqA, H', ⟨by have := HK1.out; first | omega | exact Nat.le_refl _⟩, ⟨by exact Bz BK155⟩, ⟨by exact Bz BK161⟩, ⟨by exact Lz2 HB GE155 GE161⟩⟩
           rw [if_neg c19] at H
           have c19b0 : decide (((rd_T57 l0_1 x11_1).f0) < ((rd_T57 l0_1 (ji16)).f0)) = false := decide_eq_false c19
           clear c19
           by_cases c22 : ((rd_T57 l0_1 x11_1).f0) = ((rd_T57 l0_1 (ji16)).f0)
           ·rw [if_pos c22] at H
            have c22b0 : (((rd_T57 l0_1 x11_1).f0) == ((rd_T57 l0_1 (ji16)).f0)) = true := beq_iff_eq.mpr c22
            have c22b1 : (((rd_T57 l0_1 x11_1).f0) != ((rd_T57 l0_1 (ji16)).f0)) = false := bne_eq_false_iff_eq.mpr c22
            clear c22
            have H' := Aside0.mk H
            clear H
            try go_wp2
            have n0_ : Aside0 (((w12.setCell ⟨gb161, 0, none⟩ (.int .i64 ((rd_T57 l0_1 x11_1).f0))).setCell ⟨gb161, 1, none⟩ (.int .i64 ((rd_T57 l0_1 x11_1).f1))).heap[gb155]? = some (.cells #[.int .i64 a0_0, .slice (some ad160) l0_1.length c0_1] 30 (0, 0))) := ⟨by (with_reducible repeat (first | refine blk_drewN ?_ _ | refine blk_drew ?_ | refine blk_alloc ?_ _)); refine blk_far ?_ NB155_161.out _; (with_reducible repeat (first | refine blk_drewN ?_ _ | refine blk_drew ?_ | refine blk_alloc ?_ _)); refine blk_far ?_ NB155_161.out _; exact Bz BK155⟩
            have n1_ : Aside0 (((w12.setCell ⟨gb161, 0, none⟩ (.int .i64 ((rd_T57 l0_1 x11_1).f0))).setCell ⟨gb161, 1, none⟩ (.int .i64 ((rd_T57 l0_1 x11_1).f1))).heap[gb161]? = some (.cells #[.int .i64 ((rd_T57 l0_1 x11_1).f0), .int .i64 ((rd_T57 l0_1 x11_1).f1)] 57 (0, 0))) := ⟨by (with_reducible repeat (first | refine blk_drewN ?_ _ | refine blk_drew ?_ | refine blk_alloc ?_ _)); refine blk_put (cs := #[.int .i64 ((rd_T57 l0_1 x11_1).f0), .int .i64 0]) ?_ 1 _ rfl; (with_reducible repeat (first | refine blk_drewN ?_ _ | refine blk_drew ?_ | refine blk_alloc ?_ _)); refine blk_put (cs := #[.int .i64 0, .int .i64 0]) ?_ 0 _ rfl; exact Bz BK161⟩
            have n2_ : Aside0 (Below w.heap.size w ((w12.setCell ⟨gb161, 0, none⟩ (.int .i64 ((rd_T57 l0_1 x11_1).f0))).setCell ⟨gb161, 1, none⟩ (.int .i64 ((rd_T57 l0_1 x11_1).f1)))) := ⟨by exact Lz2 HB GE155 GE161⟩
            (try clear BK155)
            (try clear BK161)
            (try clear HB)
            generalize ((w12.setCell ⟨gb161, 0, none⟩ (.int .i64 ((rd_T57 l0_1 x11_1).f0))).setCell ⟨gb161, 1, none⟩ (.int .i64 ((rd_T57 l0_1 x11_1).f1))) = w23 at n0_ n1_ n2_ ⊢
            have BK155 := n0_
            have BK161 := n1_
            have HB := n2_
            clear n0_ n1_ n2_
            replace BK155 := Aside0.mk (blk_drew BK155.out)
            replace BK161 := Aside0.mk (blk_drew BK161.out)
            replace HB := Aside0.mk (below_drew1 HB.out)
            have p162 : 0 ≤ ((ji16) : Int) := ofA
            have q162 : (ji16) < (l0_1.length : Int) := ofA
            obtain ⟨ad162, e162, hx162_0, hx162_1⟩ := at_T57 HR0_1.out (ji16) p162 q162
            have hw162_1 := hx162_1
            have hw162_0 := hx162_0
            obtain rfl : ad160 = ad162 := (by injection e162)
            replace hx162_0 := (HB.out.cell (World.block_lt_of_cell? w _ hx162_0)).trans hx162_0
            replace hx162_1 := (HB.out.cell (World.block_lt_of_cell? w _ hx162_1)).trans hx162_1
            replace p162 := eq_true p162
            replace q162 := eq_true q162
            have p163 : 0 ≤ ((ji16) : Int) := ofA
            have q163 : (ji16) < (l0_1.length : Int) := ofA
            obtain ⟨ad163, e163, hx163_0, hx163_1⟩ := at_T57 HR0_1.out (ji16) p163 q163
            have hw163_1 := hx163_1
            have hw163_0 := hx163_0
            obtain rfl : ad160 = ad163 := (by injection e163)
            replace hx163_0 := (HB.out.cell (World.block_lt_of_cell? w _ hx163_0)).trans hx163_0
            replace hx163_1 := (HB.out.cell (World.block_lt_of_cell? w _ hx163_1)).trans hx163_1
            replace p163 := eq_true p163
            replace q163 := eq_true q163
            have p164 : 0 ≤ ((ji16) : Int) := ofA
            have q164 : (ji16) < (l0_1.length : Int) := ofA
            obtain ⟨ad164, e164, hx164_0, hx164_1⟩ := at_T57 HR0_1.out (ji16) p164 q164
            have hw164_1 := hx164_1
            have hw164_0 := hx164_0
            obtain rfl : ad160 = ad164 := (by injection e164)
            replace hx164_0 := (HB.out.cell (World.block_lt_of_cell? w _ hx164_0)).trans hx164_0
            replace hx164_1 := (HB.out.cell (World.block_lt_of_cell? w _ hx164_1)).trans hx164_1
            replace p164 := eq_true p164
            replace q164 := eq_true q164
            refine start_ (n := 38) (S := fun w' => w'.cell? ⟨gb161, 0, none⟩ = some (.int .i64 ((rd_T57 l0_1 x11_1).f0)) ∧ w'.cell? ⟨gb161, 1, none⟩ = some (.int .i64 ((rd_T57 l0_1 x11_1).f1)) ∧ w'.cell? ⟨gb155, 0, none⟩ = some (.int .i64 a0_0) ∧ w'.cell? ⟨gb155, 1, none⟩ = some (.slice (some ad160) l0_1.length c0_1) ∧ w'.cell? (ad160.add (((ji16)).toNat * 2)) = some (.int .i64 ((rd_T57 l0_1 (ji16)).f0)) ∧ w'.cell? ⟨(ad160.add (((ji16)).toNat * 2)).block, (ad160.add (((ji16)).toNat * 2)).off + 1, none⟩ = some (.int .i64 ((rd_T57 l0_1 (ji16)).f1)) ∧ w'.cell? (ad160.add (((ji16)).toNat * 2)) = some (.int .i64 ((rd_T57 l0_1 (ji16)).f0)) ∧ w'.cell? ⟨(ad160.add (((ji16)).toNat * 2)).block, (ad160.add (((ji16)).toNat * 2)).off + 1, none⟩ = some (.int .i64 ((rd_T57 l0_1 (ji16)).f1)) ∧ w'.cell? (ad160.add (((ji16)).toNat * 2)) = some (.int .i64 ((rd_T57 l0_1 (ji16)).f0)) ∧ w'.cell? ⟨(ad160.add (((ji16)).toNat * 2)).block, (ad160.add (((ji16)).toNat * 2)).off + 1, none⟩ = some (.int .i64 ((rd_T57 l0_1 (ji16)).f1))) (ds := []) #[false, false, false, false, false, false, false, false, false, false, false, false, false, false, false, false, false, false, false, false, false, false, false, false, false, false, false, false, false, false, false, false, false, false, false, false, false, false] (by kernel_rfl) rfl rfl ⟨(blk_cell BK161.out 0).trans rfl, (blk_cell BK161.out 1).trans rfl, (blk_cell BK155.out 0).trans rfl, (blk_cell BK155.out 1).trans rfl, ((HB.out.cell (World.block_lt_of_cell? w _ hw162_0)).trans hw162_0), ((HB.out.cell (World.block_lt_of_cell? w _ hw162_1)).trans hw162_1), ((HB.out.cell (World.block_lt_of_cell? w _ hw163_0)).trans hw163_0), ((HB.out.cell (World.block_lt_of_cell? w _ hw163_1)).trans hw163_1), ((HB.out.cell (World.block_lt_of_cell? w _ hw164_0)).trans hw164_0), ((HB.out.cell (World.block_lt_of_cell? w _ hw164_1)).trans hw164_1)⟩ (fun hHeld => ?_); refine with_tabW spec_GraphOk.tab6 spec_GraphOk.bits6 (fun HT_ HW_ => ?_)
            generalize w23.drew = w24 at BK155 BK161 HB hx162_0 hx162_1 hx163_0 hx163_1 hx164_0 hx164_1 hHeld ⊢
            refine pureT_ 0 16 HT_ ?_
            refine pureT_ 1 17 HT_ ?_
            refine pureT_ 2 18 HT_ ?_
            refine pureT_ 3 19 HT_ ?_
            refine pureT_ 5 21 HT_ ?_
            refine pureT_ 7 23 HT_ ?_
            refine pureT_ 8 24 HT_ ?_
            refine takeT_ 4 20 HT_ HW_ hHeld rfl (by rintro w' ⟨s0, s1, s2, s3, s4, s5, s6, s7, s8, s9⟩; go_simp; with_reducible rfl) ?_
            refine takeT_ 6 22 HT_ HW_ hHeld rfl (by rintro w' ⟨s0, s1, s2, s3, s4, s5, s6, s7, s8, s9⟩; go_simp; with_reducible rfl) ?_
            refine pureT_ 9 25 HT_ ?_
            refine pureT_ 10 26 HT_ ?_
            refine takeT_ 11 27 HT_ HW_ hHeld rfl (by rintro w' ⟨s0, s1, s2, s3, s4, s5, s6, s7, s8, s9⟩; go_simp; with_reducible rfl) ?_
            refine pureT_ 12 28 HT_ ?_
            refine pureT_ 13 29 HT_ ?_
            refine pureT_ 14 30 HT_ ?_
            refine pureT_ 16 32 HT_ ?_
            refine pureT_ 18 34 HT_ ?_
            refine pureT_ 19 35 HT_ ?_
            refine takeT_ 15 31 HT_ HW_ hHeld rfl (by rintro w' ⟨s0, s1, s2, s3, s4, s5, s6, s7, s8, s9⟩; go_simp; with_reducible rfl) ?_
            refine takeT_ 17 33 HT_ HW_ hHeld rfl (by rintro w' ⟨s0, s1, s2, s3, s4, s5, s6, s7, s8, s9⟩; go_simp; with_reducible rfl) ?_
            refine pureT_ 20 36 HT_ ?_
            refine pureT_ 21 37 HT_ ?_
            refine takeT_ 22 38 HT_ HW_ hHeld rfl (by rintro w' ⟨s0, s1, s2, s3, s4, s5, s6, s7, s8, s9⟩; go_simp; with_reducible rfl) ?_
            refine pureT_ 23 39 HT_ ?_
            refine pureT_ 24 40 HT_ ?_
            refine pureT_ 25 41 HT_ ?_
            refine pureT_ 27 43 HT_ ?_
            refine pureT_ 29 45 HT_ ?_
            refine pureT_ 30 46 HT_ ?_
            refine takeT_ 26 42 HT_ HW_ hHeld rfl (by rintro w' ⟨s0, s1, s2, s3, s4, s5, s6, s7, s8, s9⟩; go_simp; with_reducible rfl) ?_
            refine takeT_ 28 44 HT_ HW_ hHeld rfl (by rintro w' ⟨s0, s1, s2, s3, s4, s5, s6, s7, s8, s9⟩; go_simp; with_reducible rfl) ?_
            refine pureT_ 31 47 HT_ ?_
            refine pureT_ 32 48 HT_ ?_
            refine takeT_ 33 49 HT_ HW_ hHeld rfl (by rintro w' ⟨s0, s1, s2, s3, s4, s5, s6, s7, s8, s9⟩; go_simp; with_reducible rfl) ?_
            refine pureT_ 34 50 HT_ ?_
            refine pureT_ 35 51 HT_ ?_
            refine pureT_ 36 52 HT_ ?_
            refine pureT_ 37 53 HT_ ?_
            refine done_ (done_of HT_.out (by kernel_rfl)) ?_
            try go_wp2
            go_meet
            case rel => exact ⟨_, (decide (((rd_T57 l0_1 x11_1).f1) < ((rd_T57 l0_1 (ji16)).f1))), (by first | rfl | (simp; done) | (simp only [← hji16] <;> (first | rfl | simp)) | (simp [*]; done)), H', ⟨by have := HK1.out; first | omega | exact Nat.le_refl _⟩, ⟨by exact Bz BK155⟩, ⟨by exact Bz BK161⟩, ⟨by exact Lz2 HB GE155 GE161⟩⟩
           rw [if_neg c22] at H
           have c22b0 : (((rd_T57 l0_1 x11_1).f0) == ((rd_T57 l0_1 (ji16)).f0)) = false := beq_eq_false_iff_ne.mpr c22
           have c22b1 : (((rd_T57 l0_1 x11_1).f0) != ((rd_T57 l0_1 (ji16)).f0)) = true := bne_iff_ne.mpr c22
           have H' := Aside0.mk H
           clear H
           try go_wp2
           have n0_ : Aside0 (((w12.setCell ⟨gb161, 0, none⟩ (.int .i64 ((rd_T57 l0_1 x11_1).f0))).setCell ⟨gb161, 1, none⟩ (.int .i64 ((rd_T57 l0_1 x11_1).f1))).heap[gb155]? = some (.cells #[.int .i64 a0_0, .slice (some ad160) l0_1.length c0_1] 30 (0, 0))) := ⟨by (with_reducible repeat (first | refine blk_drewN ?_ _ | refine blk_drew ?_ | refine blk_alloc ?_ _)); refine blk_far ?_ NB155_161.out _; (with_reducible repeat (first | refine blk_drewN ?_ _ | refine blk_drew ?_ | refine blk_alloc ?_ _)); refine blk_far ?_ NB155_161.out _; exact Bz BK155⟩
           have n1_ : Aside0 (((w12.setCell ⟨gb161, 0, none⟩ (.int .i64 ((rd_T57 l0_1 x11_1).f0))).setCell ⟨gb161, 1, none⟩ (.int .i64 ((rd_T57 l0_1 x11_1).f1))).heap[gb161]? = some (.cells #[.int .i64 ((rd_T57 l0_1 x11_1).f0), .int .i64 ((rd_T57 l0_1 x11_1).f1)] 57 (0, 0))) := ⟨by (with_reducible repeat (first | refine blk_drewN ?_ _ | refine blk_drew ?_ | refine blk_alloc ?_ _)); refine blk_put (cs := #[.int .i64 ((rd_T57 l0_1 x11_1).f0), .int .i64 0]) ?_ 1 _ rfl; (with_reducible repeat (first | refine blk_drewN ?_ _ | refine blk_drew ?_ | refine blk_alloc ?_ _)); refine blk_put (cs := #[.int .i64 0, .int .i64 0]) ?_ 0 _ rfl; exact Bz BK161⟩
           have n2_ : Aside0 (Below w.heap.size w ((w12.setCell ⟨gb161, 0, none⟩ (.int .i64 ((rd_T57 l0_1 x11_1).f0))).setCell ⟨gb161, 1, none⟩ (.int .i64 ((rd_T57 l0_1 x11_1).f1)))) := ⟨by exact Lz2 HB GE155 GE161⟩
           (try clear BK155)
           (try clear BK161)
           (try clear HB)
           generalize ((w12.setCell ⟨gb161, 0, none⟩ (.int .i64 ((rd_T57 l0_1 x11_1).f0))).setCell ⟨gb161, 1, none⟩ (.int .i64 ((rd_T57 l0_1 x11_1).f1))) = w25 at n0_ n1_ n2_ ⊢
           have BK155 := n0_
           have BK161 := n1_
           have HB := n2_
           clear n0_ n1_ n2_
           replace BK155 := Aside0.mk (blk_drew BK155.out)
           replace BK161 := Aside0.mk (blk_drew BK161.out)
           replace HB := Aside0.mk (below_drew1 HB.out)
           have p162 : 0 ≤ ((ji16) : Int) := ofA
           have q162 : (ji16) < (l0_1.length : Int) := ofA
           obtain ⟨ad162, e162, hx162_0, hx162_1⟩ := at_T57 HR0_1.out (ji16) p162 q162
           have hw162_1 := hx162_1
           have hw162_0 := hx162_0
           obtain rfl : ad160 = ad162 := (by injection e162)
           replace hx162_0 := (HB.out.cell (World.block_lt_of_cell? w _ hx162_0)).trans hx162_0
           replace hx162_1 := (HB.out.cell (World.block_lt_of_cell? w _ hx162_1)).trans hx162_1
           replace p162 := eq_true p162
           replace q162 := eq_true q162
           have p163 : 0 ≤ ((ji16) : Int) := ofA
           have q163 : (ji16) < (l0_1.length : Int) := ofA
           obtain ⟨ad163, e163, hx163_0, hx163_1⟩ := at_T57 HR0_1.out (ji16) p163 q163
           have hw163_1 := hx163_1
           have hw163_0 := hx163_0
           obtain rfl : ad160 = ad163 := (by injection e163)
           replace hx163_0 := (HB.out.cell (World.block_lt_of_cell? w _ hx163_0)).trans hx163_0
           replace hx163_1 := (HB.out.cell (World.block_lt_of_cell? w _ hx163_1)).trans hx163_1
           replace p163 := eq_true p163
           replace q163 := eq_true q163
           refine start_ (n := 38) (S := fun w' => w'.cell? ⟨gb161, 0, none⟩ = some (.int .i64 ((rd_T57 l0_1 x11_1).f0)) ∧ w'.cell? ⟨gb161, 1, none⟩ = some (.int .i64 ((rd_T57 l0_1 x11_1).f1)) ∧ w'.cell? ⟨gb155, 0, none⟩ = some (.int .i64 a0_0) ∧ w'.cell? ⟨gb155, 1, none⟩ = some (.slice (some ad160) l0_1.length c0_1) ∧ w'.cell? (ad160.add (((ji16)).toNat * 2)) = some (.int .i64 ((rd_T57 l0_1 (ji16)).f0)) ∧ w'.cell? ⟨(ad160.add (((ji16)).toNat * 2)).block, (ad160.add (((ji16)).toNat * 2)).off + 1, none⟩ = some (.int .i64 ((rd_T57 l0_1 (ji16)).f1)) ∧ w'.cell? (ad160.add (((ji16)).toNat * 2)) = some (.int .i64 ((rd_T57 l0_1 (ji16)).f0)) ∧ w'.cell? ⟨(ad160.add (((ji16)).toNat * 2)).block, (ad160.add (((ji16)).toNat * 2)).off + 1, none⟩ = some (.int .i64 ((rd_T57 l0_1 (ji16)).f1))) (ds := []) #[false, false, false, false, false, false, false, false, false, false, false, false, false, false, false, false, false, false, false, false, false, false, false, false, false, false, false, false, false, false, false, false, false, false, false, false, false, false] (by kernel_rfl) rfl rfl ⟨(blk_cell BK161.out 0).trans rfl, (blk_cell BK161.out 1).trans rfl, (blk_cell BK155.out 0).trans rfl, (blk_cell BK155.out 1).trans rfl, ((HB.out.cell (World.block_lt_of_cell? w _ hw162_0)).trans hw162_0), ((HB.out.cell (World.block_lt_of_cell? w _ hw162_1)).trans hw162_1), ((HB.out.cell (World.block_lt_of_cell? w _ hw163_0)).trans hw163_0), ((HB.out.cell (World.block_lt_of_cell? w _ hw163_1)).trans hw163_1)⟩ (fun hHeld => ?_); refine with_tabW spec_GraphOk.tab6 spec_GraphOk.bits6 (fun HT_ HW_ => ?_)
           generalize w25.drew = w26 at BK155 BK161 HB hx162_0 hx162_1 hx163_0 hx163_1 hHeld ⊢
           refine pureT_ 0 16 HT_ ?_
           refine pureT_ 1 17 HT_ ?_
           refine pureT_ 2 18 HT_ ?_
           refine pureT_ 3 19 HT_ ?_
           refine pureT_ 5 21 HT_ ?_
           refine pureT_ 7 23 HT_ ?_
           refine pureT_ 8 24 HT_ ?_
           refine takeT_ 4 20 HT_ HW_ hHeld rfl (by rintro w' ⟨s0, s1, s2, s3, s4, s5, s6, s7⟩; go_simp; with_reducible rfl) ?_
           refine takeT_ 6 22 HT_ HW_ hHeld rfl (by rintro w' ⟨s0, s1, s2, s3, s4, s5, s6, s7⟩; go_simp; with_reducible rfl) ?_
           refine pureT_ 9 25 HT_ ?_
           refine pureT_ 10 26 HT_ ?_
           refine takeT_ 11 27 HT_ HW_ hHeld rfl (by rintro w' ⟨s0, s1, s2, s3, s4, s5, s6, s7⟩; go_simp; with_reducible rfl) ?_
           refine pureT_ 12 28 HT_ ?_
           refine pureT_ 13 29 HT_ ?_
           refine pureT_ 14 30 HT_ ?_
           refine pureT_ 16 32 HT_ ?_
           refine pureT_ 18 34 HT_ ?_
           refine pureT_ 19 35 HT_ ?_
           refine takeT_ 15 31 HT_ HW_ hHeld rfl (by rintro w' ⟨s0, s1, s2, s3, s4, s5, s6, s7⟩; go_simp; with_reducible rfl) ?_
           refine takeT_ 17 33 HT_ HW_ hHeld rfl (by rintro w' ⟨s0, s1, s2, s3, s4, s5, s6, s7⟩; go_simp; with_reducible rfl) ?_
           refine pureT_ 20 36 HT_ ?_
           refine pureT_ 21 37 HT_ ?_
           refine takeT_ 22 38 HT_ HW_ hHeld rfl (by rintro w' ⟨s0, s1, s2, s3, s4, s5, s6, s7⟩; go_simp; with_reducible rfl) ?_
           refine pureT_ 23 39 HT_ ?_
           refine pureT_ 24 40 HT_ ?_
           refine pureU_ 25 41 HT_ ?_
           refine pureU_ 26 42 HT_ ?_
           refine pureU_ 27 43 HT_ ?_
           refine pureU_ 28 44 HT_ ?_
           refine pureU_ 29 45 HT_ ?_
           refine pureU_ 30 46 HT_ ?_
           refine pureU_ 31 47 HT_ ?_
           refine pureU_ 32 48 HT_ ?_
           refine pureU_ 33 49 HT_ ?_
           refine pureU_ 34 50 HT_ ?_
           refine pureT_ 35 51 HT_ ?_
           refine pureT_ 36 52 HT_ ?_
           refine pureT_ 37 53 HT_ ?_
           refine done_ (done_of HT_.out (by kernel_rfl)) ?_
           try go_wp2
           go_meet
           case rel => exact ⟨_, (false), eqA, H', ⟨by have := HK1.out; first | omega | exact Nat.le_refl _⟩, ⟨by exact Bz BK155⟩, ⟨by exact Bz BK161⟩, ⟨by exact Lz2 HB GE155 GE161⟩⟩
          rw [if_neg c18] at H
          exact absurd H (by simp)
         rw [if_neg c17] at H
         exact absurd H (by simp)
        rw [if_neg c15] at H
        have c15b0 : decide (0 < x11_1) = false := decide_eq_false c15
        clear c15
        (first | rw [c15b0] | (simp only [i64_w, i32_w]; rw [c15b0]) | skip)
        have H' := Aside0.mk H
        clear H
        try go_wp2
        have n0_ : Aside0 (((w12.setCell ⟨gb161, 0, none⟩ (.int .i64 ((rd_T57 l0_1 x11_1).f0))).setCell ⟨gb161, 1, none⟩ (.int .i64 ((rd_T57 l0_1 x11_1).f1))).heap[gb155]? = some (.cells #[.int .i64 a0_0, .slice (some ad160) l0_1.length c0_1] 30 (0, 0))) := ⟨by (with_reducible repeat (first | refine blk_drewN ?_ _ | refine blk_drew ?_ | refine blk_alloc ?_ _)); refine blk_far ?_ NB155_161.out _; (with_reducible repeat (first | refine blk_drewN ?_ _ | refine blk_drew ?_ | refine blk_alloc ?_ _)); refine blk_far ?_ NB155_161.out _; exact Bz BK155⟩
        have n1_ : Aside0 (((w12.setCell ⟨gb161, 0, none⟩ (.int .i64 ((rd_T57 l0_1 x11_1).f0))).setCell ⟨gb161, 1, none⟩ (.int .i64 ((rd_T57 l0_1 x11_1).f1))).heap[gb161]? = some (.cells #[.int .i64 ((rd_T57 l0_1 x11_1).f0), .int .i64 ((rd_T57 l0_1 x11_1).f1)] 57 (0, 0))) := ⟨by (with_reducible repeat (first | refine blk_drewN ?_ _ | refine blk_drew ?_ | refine blk_alloc ?_ _)); refine blk_put (cs := #[.int .i64 ((rd_T57 l0_1 x11_1).f0), .int .i64 0]) ?_ 1 _ rfl; (with_reducible repeat (first | refine blk_drewN ?_ _ | refine blk_drew ?_ | refine blk_alloc ?_ _)); refine blk_put (cs := #[.int .i64 0, .int .i64 0]) ?_ 0 _ rfl; exact Bz BK161⟩
        have n2_ : Aside0 (Below w.heap.size w ((w12.setCell ⟨gb161, 0, none⟩ (.int .i64 ((rd_T57 l0_1 x11_1).f0))).setCell ⟨gb161, 1, none⟩ (.int .i64 ((rd_T57 l0_1 x11_1).f1)))) := ⟨by exact Lz2 HB GE155 GE161⟩
        (try clear BK155)
        (try clear BK161)
        (try clear HB)
        generalize ((w12.setCell ⟨gb161, 0, none⟩ (.int .i64 ((rd_T57 l0_1 x11_1).f0))).setCell ⟨gb161, 1, none⟩ (.int .i64 ((rd_T57 l0_1 x11_1).f1))) = w27 at n0_ n1_ n2_ ⊢
        have BK155 := n0_
        have BK161 := n1_
        have HB := n2_
        clear n0_ n1_ n2_
        replace BK155 := Aside0.mk (blk_drew BK155.out)
        replace BK161 := Aside0.mk (blk_drew BK161.out)
        replace HB := Aside0.mk (below_drew1 HB.out)
        refine start_ (n := 38) (S := fun w' => True) (ds := []) #[false, false, false, false, false, false, false, false, false, false, false, false, false, false, false, false, false, false, false, false, false, false, false, false, false, false, false, false, false, false, false, false, false, false, false, false, false, false] (by kernel_rfl) rfl rfl trivial (fun hHeld => ?_); refine with_tabW spec_GraphOk.tab6 spec_GraphOk.bits6 (fun HT_ HW_ => ?_)
        generalize w27.drew = w28 at BK155 BK161 HB hHeld ⊢
        refine pureT_ 0 16 HT_ ?_
        refine pureT_ 1 17 HT_ ?_
        refine pureT_ 2 18 HT_ ?_
        refine pureU_ 3 19 HT_ ?_
        refine pureU_ 4 20 HT_ ?_
        refine pureU_ 5 21 HT_ ?_
        refine pureU_ 6 22 HT_ ?_
        refine pureU_ 7 23 HT_ ?_
        refine pureU_ 8 24 HT_ ?_
        refine pureU_ 9 25 HT_ ?_
        refine pureU_ 10 26 HT_ ?_
        refine pureU_ 11 27 HT_ ?_
        refine pureU_ 12 28 HT_ ?_
        refine pureU_ 13 29 HT_ ?_
        refine pureU_ 14 30 HT_ ?_
        refine pureU_ 15 31 HT_ ?_
        refine pureU_ 16 32 HT_ ?_
        refine pureU_ 17 33 HT_ ?_
        refine pureU_ 18 34 HT_ ?_
        refine pureU_ 19 35 HT_ ?_
        refine pureU_ 20 36 HT_ ?_
        refine pureU_ 21 37 HT_ ?_
        refine pureU_ 22 38 HT_ ?_
        refine pureU_ 23 39 HT_ ?_
        refine pureU_ 24 40 HT_ ?_
        refine pureU_ 25 41 HT_ ?_
        refine pureU_ 26 42 HT_ ?_
        refine pureU_ 27 43 HT_ ?_
        refine pureU_ 28 44 HT_ ?_
        refine pureU_ 29 45 HT_ ?_
        refine pureU_ 30 46 HT_ ?_
        refine pureU_ 31 47 HT_ ?_
        refine pureU_ 32 48 HT_ ?_
        refine pureU_ 33 49 HT_ ?_
        refine pureU_ 34 50 HT_ ?_
        refine pureU_ 35 51 HT_ ?_
        refine pureU_ 36 52 HT_ ?_
        refine pureT_ 37 53 HT_ ?_
        refine done_ (done_of HT_.out (by kernel_rfl)) ?_
        try go_wp2
        go_meet
        case rel => exact ⟨_, (false), eqA, H', ⟨by have := HK1.out; first | omega | exact Nat.le_refl _⟩, ⟨by exact Bz BK155⟩, ⟨by exact Bz BK161⟩, ⟨by exact Lz2 HB GE155 GE161⟩⟩
       case rest =>
        clear HC11
        try clear c15
        try clear c15b0
        try clear c17
        try clear c18
        try clear c22
        try clear c22b0
        try clear c22b1
        try clear p162
        try clear p163
        try clear q162
        try clear q163
        obtain ⟨kq, x53_10, rfl, HA, HJ10, BK155, BK161, HB⟩ := hcut
        cases kq with
        | zero => exact absurd HA.out (by simp [spec_GraphOk.j1])
        | succ kj10 =>
         have H := HA.out
         clear HA
         simp only [spec_GraphOk.j1] at H
         by_cases c29 : x53_10 = true
         ·subst c29
          have H1 : (some false) = some r := by rw [if_pos rfl] at H; exact H
          clear H
          have H := H1
          clear H1
          obtain rfl := Option.some.inj H
          go_wp2
          go_ret
          exact ⟨by first | rfl | (simp [errW_none, errW_some] <;> rfl) | (simp [*, errW_none, errW_some] <;> rfl), by exact Lz2 HB GE155 GE161⟩
         replace c29 := Bool.eq_false_iff.mpr c29
         subst c29
         have H1 : (spec_GraphOk.l0 kj10 l0_1 (l0_1.length : Int) (wrap64 (x11_1 + 1)) a0_0 l0_1) = some r := by rw [if_neg (show ¬ (false = true) by decide)] at H; exact H
         clear H
         have H := H1
         clear H1
         have H' := Aside0.mk H
         clear H
         go_wp2
         go_roundg kj10
         case measure => have := HK1.out; have := HJ10.out; omega
         case rel => exact ⟨(wrap64 (x11_1 + 1)), eqA, H', ⟨by have := HK1.out; have := HJ10.out; omega⟩, ⟨by exact Bz BK155⟩, ⟨by exact Lz2 HB GE155 GE161⟩⟩
      rw [if_neg c10] at H
      exact absurd H (by simp)
     rw [if_neg c9] at H
     exact absurd H (by simp)
    rw [if_neg c8] at H
    have c8b0 : decide (x11_1 < (l0_1.length : Int)) = false := decide_eq_false c8
    clear c8
    replace H := Option.bind_eq_some_iff.mp H
    obtain ⟨t157, A300, H⟩ := H
    replace H : (some ((t157.length : Int) == a0_0)) = some r := H
    have A30 := Aside0.mk A300
    clear A300
    obtain rfl := Option.some.inj H
    try go_wp2
    replace BK155 := Aside0.mk (blk_drew BK155.out)
    replace HB := Aside0.mk (below_drew1 HB.out)
    refine start_ (n := 7) (S := fun w' => w'.cell? ⟨gb155, 0, none⟩ = some (.int .i64 a0_0) ∧ w'.cell? ⟨gb155, 1, none⟩ = some (.slice A0_1 l0_1.length c0_1)) (ds := []) #[false, false, false, false, false, false, false] (by kernel_rfl) rfl rfl ⟨(blk_cell BK155.out 0).trans rfl, (blk_cell BK155.out 1).trans rfl⟩ (fun hHeld => ?_)
    generalize wr.drew = w31 at BK155 HB hHeld ⊢
    refine pure_ (i := 3) (N := some 58) (v := ?_) (a' := ?_) #[false, false, false, true, false, false, false] rfl rfl (by kernel_rfl) (fun _ _ _ h => h) (Or.inl ⟨by rfl, ?_⟩) ?_ ?_
    rotate_left
    ·intro w'
     go_simp
     with_reducible rfl
    rotate_left
    ·simp only [Act.put, List.setIfInBounds_toArray, List.set_cons_zero, List.set_cons_succ, i64_w, i32_w]
     rfl
    refine take_ (i := 0) (N := some 55) (v := ?_) (a' := ?_) #[true, false, false, true, false, false, false] rfl rfl (by kernel_rfl) (fun _ _ _ h => h) (Or.inl ⟨by rfl, ?_⟩) hHeld ?_ ?_
    rotate_left
    ·rintro w' ⟨s0, s1⟩
     go_simp
     with_reducible rfl
    rotate_left
    ·simp only [Act.put, List.setIfInBounds_toArray, List.set_cons_zero, List.set_cons_succ, i64_w, i32_w]
     rfl
    refine take_ (i := 4) (N := some 59) (v := ?_) (a' := ?_) #[true, false, false, true, true, false, false] rfl rfl (by kernel_rfl) (fun _ _ _ h => h) (Or.inl ⟨by rfl, ?_⟩) hHeld ?_ ?_
    rotate_left
    ·rintro w' ⟨s0, s1⟩
     go_simp
     with_reducible rfl
    rotate_left
    ·simp only [Act.put, List.setIfInBounds_toArray, List.set_cons_zero, List.set_cons_succ, i64_w, i32_w]
     rfl
    refine one_ (i := 1) (N := some 56) #[true, true, false, true, true, false, false] rfl rfl (by kernel_rfl) (by decide) (fun K hK => ?_)
    refine goes_ Try.func81 (by kernel_rfl) rfl #[.agg #[.int .i64 a0_0, .slice A0_1 l0_1.length c0_1]] (by rfl) rfl rfl (by (try simp only [List.map_toArray, List.map_cons, List.map_nil]); first | done | rfl | (simp only [List.length_drop, List.length_take]; rfl)) ?_
    with_reducible refine (spec_l02Reach.calls k1 a0_0 _ _ l0_1 t157 _ ?side1 ?side2 A30.out).mono ?_
    (case side1 => exact Cz ((Kd.C_below HR0_1.out HB.out)))
    (case side2 => exact HC0_1.out)
    rintro e w32 ⟨v158, rfl, ho0, hb⟩
    refine ⟨_, rfl, ?_⟩
    have HO159 := Aside0.mk (Kd.R_lower ho0 (below_size (by exact Lz1 HB GE155)))
    replace BK155 := Aside0.mk (blk_below (g := gb155) (o := .cells #[.int .i64 a0_0, .slice A0_1 l0_1.length c0_1] 30 (0, 0)) (Bz BK155) hb)
    replace HB := Aside0.mk (below_step (by exact Lz1 HB GE155) hb)
    (try clear hb)
    (try clear hb2)
    (try clear hk)
    (try clear hi)
    (try clear ho0)
    obtain ⟨Ao33, co33, eo33⟩ := Kd.R_slice HO159.out
    (first | subst eo33 | (injection eo33 with f1_ f2_ f3_; have f4_ := f1_.symm; have f5_ := f3_.symm; clear f1_ f2_ f3_; subst f4_; subst f5_))
    refine hK.out _ _ ⟨(blk_cell BK155.out 0).trans rfl, (blk_cell BK155.out 1).trans rfl⟩ (fun hHeld => ?_)
    clear hK K
    refine norm_ (a' := ?_) ?_ ?_
    rotate_left
    ·show Act.put _ (some 56) _ = _
     simp only [Act.put, List.setIfInBounds_toArray, List.set_cons_zero, List.set_cons_succ, i64_w, i32_w]
     rfl
    refine pure_ (i := 2) (N := some 57) (v := ?_) (a' := ?_) #[true, true, true, true, true, false, false] rfl rfl (by kernel_rfl) (fun _ _ _ h => h) (Or.inl ⟨by rfl, ?_⟩) ?_ ?_
    rotate_left
    ·intro w'
     go_simp
     with_reducible rfl
    rotate_left
    ·simp only [Act.put, List.setIfInBounds_toArray, List.set_cons_zero, List.set_cons_succ, i64_w, i32_w]
     rfl
    refine pure_ (i := 5) (N := some 60) (v := ?_) (a' := ?_) #[true, true, true, true, true, true, false] rfl rfl (by kernel_rfl) (fun _ _ _ h => h) (Or.inl ⟨by rfl, ?_⟩) ?_ ?_
    rotate_left
    ·intro w'
     go_simp
     with_reducible rfl
    rotate_left
    ·simp only [Act.put, List.setIfInBounds_toArray, List.set_cons_zero, List.set_cons_succ, i64_w, i32_w]
     rfl
    refine pure_ (i := 6) (N := some 2) (v := ?_) (a' := ?_) #[true, true, true, true, true, true, true] rfl rfl (by kernel_rfl) (fun _ _ _ h => h) (Or.inl ⟨by rfl, ?_⟩) ?_ ?_
    rotate_left
    ·intro w'
     go_simp
     with_reducible rfl
    rotate_left
    ·simp only [Act.put, List.setIfInBounds_toArray, List.set_cons_zero, List.set_cons_succ, i64_w, i32_w]
     rfl
    refine done_ (by kernel_rfl) ?_
    try go_wp2
    go_ret
    exact ⟨by first | rfl | (simp [errW_none, errW_some] <;> rfl) | (simp [*, errW_none, errW_some] <;> rfl), by exact Lz1 HB GE155⟩
 replace c3 := Bool.eq_false_iff.mpr c3
 subst c3
 have H1 : (some false) = some r := by rw [if_neg (show ¬ (false = true) by decide)] at H; exact H
 clear H
 have H := H1
 clear H1
 obtain rfl := Option.some.inj H
 go_enter Try.func47, Try.ntmps47
 go_wp2_with (first | ((with_reducible refine gate_dst (N := 1) rfl ?_); refine box_event ?hg (N := 1) ?hd (cs := #[.int .i64 a0_0, .slice A0_1 l0_1.length c0_1]) (t := 30) ?hr ?_; (case hd => rfl); (case hg => rfl); (case hr => first | (go_simp; done) | (go_simp; rfl)); intro gb155 hg w34 hbox hb; have BK155 := Aside0.mk (hbox); have GW155 := Aside0.mk ((by rw [hg]; exact (below_size (Lz HB)) : w.heap.size ≤ gb155)); have GE155 := Aside0.mk ((by rw [hg]; exact (below_size (Lz HB)) : w.heap.size ≤ gb155)); replace HB := Aside0.mk (below_step (Lz HB) hb); clear hb hbox hg; have hcz35_0 : w34.cell? ⟨gb155, 0, none⟩ = some (.int .i64 a0_0) := (blk_cell BK155.out 0).trans rfl; have hcz35_1 : w34.cell? ⟨gb155, 1, none⟩ = some (.slice A0_1 l0_1.length c0_1) := (blk_cell BK155.out 1).trans rfl; have hfz35_0 := blk_frozen BK155.out 0; have hfz35_1 := blk_frozen BK155.out 1) | ((with_reducible refine gate_callee (f := 80) rfl ?_); refine goesM_ (some 6) rfl rfl Try.func80 (by kernel_rfl) rfl #[.agg #[.int .i64 a0_0, .slice A0_1 l0_1.length c0_1]] rfl ?_; (with_reducible refine (spec_EdgesOk.calls k a0_0 _ _ l0_1 false _ ?side1 ?side2 A2.out).mono ?_); (case side1 => exact Cz ((Kd.C_below HR0_1.out HB.out))); (case side2 => exact HC0_1.out); rintro e w36 ⟨rfl, hb⟩; refine ⟨_, rfl, ?_⟩; replace BK155 := Aside0.mk (blk_below (g := gb155) (o := .cells #[.int .i64 a0_0, .slice A0_1 l0_1.length c0_1] 30 (0, 0)) (Bz BK155) hb); replace HB := Aside0.mk (below_step (by exact Lz1 HB GE155) hb); (try clear hb); (try clear hb2); (try clear hk); (try clear hi)))
 go_ret
 exact ⟨by first | rfl | (simp [errW_none, errW_some] <;> rfl) | (simp [*, errW_none, errW_some] <;> rfl), by exact Lz1 HB GE155⟩
end Go.Proofs.Ytplcclifmajcfaa.P
end
