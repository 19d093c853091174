/- Functions of the program as plain Lean functions and that the machine's calls answer as they do, the words of the print that these use, lemmas and plain proofs of laws. Put together by a program of this work that leaves out what nothing uses; Lean checks it. -/
import Derived.Test.YtbcfccdoffbncaaGa2b5af435a
import Derived.Test.YtbcfccdoffbncaaG34698dee4f
section
namespace Go.Proofs.Ytbcfccdoffbncaa.P
open Go.RowKit Go.Proofs.YtbcfccdoffbncaaW.PrintWords Go.Proofs.YtbcfccdoffbncaaW.PrintLast Go.Proofs.YtbcfccdoffbncaaW.PrintMore
attribute [local go_sem] max2_int min2_int max_two min_two max_three min_three max_four min_four
set_option linter.unusedVariables false
set_option linter.unusedSimpArgs false
mutual
def spec_AddEdge.j0 : Nat → Int → Int → Bool → Int → List (S67) → Option (Int × (List (S67)) × Bool)
 | 0, _, _, _, _, _ => none
 | k + 1, x1, x2, x42, x647000, x647001 => if x42 = true then (some (0, ([] : List (S67)), false)) else (spec_AddEdge.l0 k false x647001 (x647001.length : Int) 0 (mn x1 x2) (mx x1 x2) x647000 ([] : List (S67)))
def spec_AddEdge.l0 : Nat → Bool → List (S67) → Int → Int → Int → Int → Int → List (S67) → Option (Int × (List (S67)) × Bool)
 | 0, _, _, _, _, _, _, _, _ => none
 | k + 1, x10, x55, x56, x57, x652000, x652001, x653000, x653001 => if x57 < x56 then (if 0 ≤ x57 then (if x57 < (x55.length : Int) then (if x10 = true then (spec_AddEdge.j2 k x10 x55 x56 x57 false x652000 x652001 x653000 x653001 ((rd_T67 x55 x57).f0) ((rd_T67 x55 x57).f1)) else (if ((rd_T67 x55 x57).f0) > x652000 then (spec_AddEdge.j2 k x10 x55 x56 x57 true x652000 x652001 x653000 x653001 ((rd_T67 x55 x57).f0) ((rd_T67 x55 x57).f1)) else (if ((rd_T67 x55 x57).f0) = x652000 then (spec_AddEdge.j2 k x10 x55 x56 x57 (decide (((rd_T67 x55 x57).f1) > x652001)) x652000 x652001 x653000 x653001 ((rd_T67 x55 x57).f0) ((rd_T67 x55 x57).f1)) else (spec_AddEdge.j2 k x10 x55 x56 x57 false x652000 x652001 x653000 x653001 ((rd_T67 x55 x57).f0) ((rd_T67 x55 x57).f1))))) else (none)) else (none)) else (if x10 = true then (some (x653000, x653001, true)) else (if x653001.length < 8796093022208 then (some (x653000, (x653001 ++ [(⟨x652000, x652001⟩ : S67)]), true)) else (none)))
def spec_AddEdge.j2 : Nat → Bool → List (S67) → Int → Int → Bool → Int → Int → Int → List (S67) → Int → Int → Option (Int × (List (S67)) × Bool)
 | 0, _, _, _, _, _, _, _, _, _, _, _ => none
 | k + 1, x10, x55, x56, x57, x83, x652000, x652001, x653000, x653001, x655000, x655001 => if x83 = true then (if x653001.length < 8796093022208 then ((some (x653001 ++ [(⟨x652000, x652001⟩ : S67)] : List (S67))).bind fun y655 => (if y655.length < 8796093022208 then (spec_AddEdge.l0 k true x55 x56 (wrap64 (x57 + 1)) x652000 x652001 x653000 (y655 ++ [(⟨x655000, x655001⟩ : S67)])) else (none))) else (none)) else (if x653001.length < 8796093022208 then (spec_AddEdge.l0 k x10 x55 x56 (wrap64 (x57 + 1)) x652000 x652001 x653000 (x653001 ++ [(⟨x655000, x655001⟩ : S67)])) else (none))
end
def spec_AddEdge.f (k : Nat) (a0_0 : Int) (l0_1 : List (S67)) (a1 : Int) (a2 : Int) : Option (Int × (List (S67)) × Bool) := (spec_GraphOk.f k a0_0 l0_1).bind fun t648 => (if t648 = true then ((spec_l01In.f a1 0 (wrap64 (a0_0 - 1))).bind fun t649 => (if t649 = true then ((spec_l01In.f a2 0 (wrap64 (a0_0 - 1))).bind fun t650 => (if t650 = true then (if a1 = a2 then (spec_AddEdge.j0 k a1 a2 true a0_0 l0_1) else (spec_AddEdge.j0 k a1 a2 ((l0_1.length : Int) == 12) a0_0 l0_1)) else (spec_AddEdge.j0 k a1 a2 true a0_0 l0_1))) else (spec_AddEdge.j0 k a1 a2 true a0_0 l0_1))) else (spec_AddEdge.j0 k a1 a2 true a0_0 l0_1))
set_option maxHeartbeats 8000000 in
set_option maxRecDepth 100000 in
theorem spec_AddEdge.calls (k : Nat) (a0_0 : Int) (A0_1 : Option Addr) (c0_1 : Nat) (l0_1 : List (S67)) (a1 : Int) (a2 : Int) (r1 : Int) (r2 : List (S67)) (r3 : Bool) (w : World) (hr0_1 : Kd.C k67 w A0_1 l0_1.length l0_1) (hc0_1 : l0_1.length ≤ c0_1) (h : spec_AddEdge.f k a0_0 l0_1 a1 a2 = some (r1, r2, r3)) :
  Calls Try.prog 118 #[.agg #[.int .i64 a0_0, .slice A0_1 l0_1.length c0_1], .int .i64 a1, .int .i64 a2] w fun e w' => ∃ v1_ : Value, e = .returned (.tuple #[.agg #[.int .i64 r1, v1_], .bool r3]) ∧ Kd.R k67 67 w' w.heap.size (fun _ => True) v1_ r2 ∧ Below w.heap.size w w' := by
 have hu31 := Try.underlying31
 have hu67 := Try.underlying67
 have HR0_1 := Aside0.mk hr0_1
 have HC0_1 := Aside0.mk hc0_1
 clear hr0_1 hc0_1
 have HB := Aside0.mk (Below.refl w.heap.size w)
 have H : ((spec_GraphOk.f k a0_0 l0_1).bind fun t648 => (if t648 = true then ((spec_l01In.f a1 0 (wrap64 (a0_0 - 1))).bind fun t649 => (if t649 = true then ((spec_l01In.f a2 0 (wrap64 (a0_0 - 1))).bind fun t650 => (if t650 = true then (if a1 = a2 then (spec_AddEdge.j0 k a1 a2 true a0_0 l0_1) else (spec_AddEdge.j0 k a1 a2 ((l0_1.length : Int) == 12) a0_0 l0_1)) else (spec_AddEdge.j0 k a1 a2 true a0_0 l0_1))) else (spec_AddEdge.j0 k a1 a2 true a0_0 l0_1))) else (spec_AddEdge.j0 k a1 a2 true a0_0 l0_1))) = some (r1, r2, r3) := h
 clear h
 have HC4 := Aside0.mk H
 clear H
 go_enter Try.func118, Try.ntmps118
 go_upto_region 1 with (first | ((with_reducible refine gate_dst (N := 3) rfl ?_); (try (refine gate_guard (by rfl) ?_; dsimp only)); refine box_event ?hg (N := 3) ?hd (cs := #[.int .i64 a0_0, .slice A0_1 l0_1.length c0_1]) (t := 31) ?hr ?_; (case hd => rfl); (case hg => rfl); (case hr => first | (go_simp; done) | (go_simp; rfl)); intro gb646 hg w5 hbox hb; have BK646 := Aside0.mk (hbox); have GW646 := Aside0.mk ((by rw [hg]; exact (below_size (Lz HB)) : w.heap.size ≤ gb646)); have GE646 := Aside0.mk ((by rw [hg]; exact (below_size (Lz HB)) : w.heap.size ≤ gb646)); replace HB := Aside0.mk (below_step (Lz HB) hb); clear hb hbox hg) | ((with_reducible refine gate_dst (N := 6) rfl ?_); (try (refine gate_guard (by rfl) ?_; dsimp only)); refine box_event ?hg (N := 6) ?hd (cs := #[.int .i64 0, .slice none 0 0]) (t := 31) ?hr ?_; (case hd => rfl); (case hg => rfl); (case hr => first | (go_simp; done) | (go_simp; rfl)); intro gb647 hg w6 hbox hb; have BK647 := Aside0.mk (hbox); have GW647 := Aside0.mk ((by rw [hg]; exact (below_size (by exact Lz1 HB GE646)) : w.heap.size ≤ gb647)); have GE647 := Aside0.mk ((by rw [hg]; exact (below_size (by exact Lz1 HB GE646)) : w.heap.size ≤ gb647)); replace HB := Aside0.mk (below_step (by exact Lz1 HB GE646) hb); have NB646_647 := Aside0.mk ((by rw [hg]; exact Nat.ne_of_lt (blk_lt (g := gb646) (o := .cells #[.int .i64 a0_0, .slice A0_1 l0_1.length c0_1] 31 (0, 0)) (Bz BK646)) : gb646 ≠ gb647)); have NB647_646 := Aside0.mk ((by rw [hg]; exact Nat.ne_of_gt (blk_lt (g := gb646) (o := .cells #[.int .i64 a0_0, .slice A0_1 l0_1.length c0_1] 31 (0, 0)) (Bz BK646)) : gb647 ≠ gb646)); replace BK646 := Aside0.mk (blk_below (g := gb646) (o := .cells #[.int .i64 a0_0, .slice A0_1 l0_1.length c0_1] 31 (0, 0)) (Bz BK646) hb); clear hb hbox hg))
 (try simp only [Act.put, List.setIfInBounds_toArray, List.set_cons_zero, List.set_cons_succ])
 go_cut [42] (fun v42 wc => ∃ (kq : Nat) (x42_3 : Bool), v42 = .bool x42_3 ∧ Aside0 (spec_AddEdge.j0 kq a1 a2 x42_3 a0_0 l0_1 = some (r1, r2, r3)) ∧ Aside0 (kq ≤ k) ∧ Aside0 (wc.heap[gb646]? = some (.cells #[.int .i64 a0_0, (.slice A0_1 l0_1.length c0_1)] 31 (0, 0))) ∧ Aside0 (wc.heap[gb647]? = some (.cells #[.int .i64 0, (.slice none 0 0)] 31 (0, 0))) ∧ Aside0 (Below w.heap.size w wc))
 case first =>
  have H := HC4.out
  clear HC4
  replace H := Option.bind_eq_some_iff.mp H
  obtain ⟨t648, A70, H⟩ := H
  replace H : (if t648 = true then ((spec_l01In.f a1 0 (wrap64 (a0_0 - 1))).bind fun t649 => (if t649 = true then ((spec_l01In.f a2 0 (wrap64 (a0_0 - 1))).bind fun t650 => (if t650 = true then (if a1 = a2 then (spec_AddEdge.j0 k a1 a2 true a0_0 l0_1) else (spec_AddEdge.j0 k a1 a2 ((l0_1.length : Int) == 12) a0_0 l0_1)) else (spec_AddEdge.j0 k a1 a2 true a0_0 l0_1))) else (spec_AddEdge.j0 k a1 a2 true a0_0 l0_1))) else (spec_AddEdge.j0 k a1 a2 true a0_0 l0_1)) = some (r1, r2, r3) := H
  have A7 := Aside0.mk A70
  clear A70
  by_cases c8 : t648 = true
  ·subst c8
   have H1 : ((spec_l01In.f a1 0 (wrap64 (a0_0 - 1))).bind fun t649 => (if t649 = true then ((spec_l01In.f a2 0 (wrap64 (a0_0 - 1))).bind fun t650 => (if t650 = true then (if a1 = a2 then (spec_AddEdge.j0 k a1 a2 true a0_0 l0_1) else (spec_AddEdge.j0 k a1 a2 ((l0_1.length : Int) == 12) a0_0 l0_1)) else (spec_AddEdge.j0 k a1 a2 true a0_0 l0_1))) else (spec_AddEdge.j0 k a1 a2 true a0_0 l0_1))) = some (r1, r2, r3) := by rw [if_pos rfl] at H; exact H
   clear H
   have H := H1
   clear H1
   replace H := Option.bind_eq_some_iff.mp H
   obtain ⟨t649, A90, H⟩ := H
   replace H : (if t649 = true then ((spec_l01In.f a2 0 (wrap64 (a0_0 - 1))).bind fun t650 => (if t650 = true then (if a1 = a2 then (spec_AddEdge.j0 k a1 a2 true a0_0 l0_1) else (spec_AddEdge.j0 k a1 a2 ((l0_1.length : Int) == 12) a0_0 l0_1)) else (spec_AddEdge.j0 k a1 a2 true a0_0 l0_1))) else (spec_AddEdge.j0 k a1 a2 true a0_0 l0_1)) = some (r1, r2, r3) := H
   have A9 := Aside0.mk A90
   clear A90
   by_cases c10 : t649 = true
   ·subst c10
    have H1 : ((spec_l01In.f a2 0 (wrap64 (a0_0 - 1))).bind fun t650 => (if t650 = true then (if a1 = a2 then (spec_AddEdge.j0 k a1 a2 true a0_0 l0_1) else (spec_AddEdge.j0 k a1 a2 ((l0_1.length : Int) == 12) a0_0 l0_1)) else (spec_AddEdge.j0 k a1 a2 true a0_0 l0_1))) = some (r1, r2, r3) := by rw [if_pos rfl] at H; exact H
    clear H
    have H := H1
    clear H1
    replace H := Option.bind_eq_some_iff.mp H
    obtain ⟨t650, A110, H⟩ := H
    replace H : (if t650 = true then (if a1 = a2 then (spec_AddEdge.j0 k a1 a2 true a0_0 l0_1) else (spec_AddEdge.j0 k a1 a2 ((l0_1.length : Int) == 12) a0_0 l0_1)) else (spec_AddEdge.j0 k a1 a2 true a0_0 l0_1)) = some (r1, r2, r3) := H
    have A11 := Aside0.mk A110
    clear A110
    by_cases c12 : t650 = true
    ·subst c12
     have H1 : (if a1 = a2 then (spec_AddEdge.j0 k a1 a2 true a0_0 l0_1) else (spec_AddEdge.j0 k a1 a2 ((l0_1.length : Int) == 12) a0_0 l0_1)) = some (r1, r2, r3) := by rw [if_pos rfl] at H; exact H
     clear H
     have H := H1
     clear H1
     by_cases c13 : a1 = a2
     ·rw [if_pos c13] at H
      have c13b0 : (a1 == a2) = true := beq_iff_eq.mpr c13
      have c13b1 : (a1 != a2) = false := bne_eq_false_iff_eq.mpr c13
      clear c13
      (first | rw [c13b0] | (simp only [i64_w, i32_w]; rw [c13b0]) | skip)
      have H' := Aside0.mk H
      clear H
      have hnb14 := NB646_647.out
      have hnc14 := NB647_646.out
      have hcz15_0 : w6.cell? ⟨gb646, 0, none⟩ = some (.int .i64 a0_0) := (blk_cell BK646.out 0).trans rfl
      have hcz15_1 : w6.cell? ⟨gb646, 1, none⟩ = some (.slice A0_1 l0_1.length c0_1) := (blk_cell BK646.out 1).trans rfl
      have hfz15_0 := blk_frozen BK646.out 0
      have hfz15_1 := blk_frozen BK646.out 1
      go_wp2_with (first | ((with_reducible refine gate_callee (f := 116) rfl ?_); refine goesM_ (some 14) rfl rfl Try.func116 (by kernel_rfl) rfl #[.agg #[.int .i64 a0_0, .slice A0_1 l0_1.length c0_1]] rfl ?_; (with_reducible refine (spec_GraphOk.calls k a0_0 _ _ l0_1 true _ ?side1 ?side2 A7.out).mono ?_); (case side1 => exact Cz ((Kd.C_below HR0_1.out HB.out))); (case side2 => exact HC0_1.out); rintro e w16 ⟨rfl, hb⟩; refine ⟨_, rfl, ?_⟩; replace BK646 := Aside0.mk (blk_below (g := gb646) (o := .cells #[.int .i64 a0_0, .slice A0_1 l0_1.length c0_1] 31 (0, 0)) (Bz BK646) hb); replace BK647 := Aside0.mk (blk_below (g := gb647) (o := .cells #[.int .i64 0, .slice none 0 0] 31 (0, 0)) (Bz BK647) hb); replace HB := Aside0.mk (below_step (by exact Lz2 HB GE646 GE647) hb); (try clear hb); (try clear hb2); (try clear hk); (try clear hi); have hcz17_0 : w16.cell? ⟨gb646, 0, none⟩ = some (.int .i64 a0_0) := (blk_cell BK646.out 0).trans rfl; have hcz17_1 : w16.cell? ⟨gb646, 1, none⟩ = some (.slice A0_1 l0_1.length c0_1) := (blk_cell BK646.out 1).trans rfl; have hfz17_0 := blk_frozen BK646.out 0; have hfz17_1 := blk_frozen BK646.out 1) | (go_at_call 117; (with_reducible refine (spec_l01In.calls a1 0 (wrap64 (a0_0 - 1)) true _ A9.out).mono ?_); rintro e w' ⟨rfl, ⟨nd, rfl⟩⟩) | (go_at_call 117; (with_reducible refine (spec_l01In.calls a2 0 (wrap64 (a0_0 - 1)) true _ A11.out).mono ?_); rintro e w' ⟨rfl, ⟨nd, rfl⟩⟩))
      go_meet
      case rel => exact ⟨_, (true), eqA, H', ⟨by first | omega | exact Nat.le_refl _⟩, ⟨by exact Bz BK646⟩, ⟨by exact Bz BK647⟩, ⟨by exact Lz2 HB GE646 GE647⟩⟩
     rw [if_neg c13] at H
     have c13b0 : (a1 == a2) = false := beq_eq_false_iff_ne.mpr c13
     have c13b1 : (a1 != a2) = true := bne_iff_ne.mpr c13
     (first | rw [c13b0] | (simp only [i64_w, i32_w]; rw [c13b0]) | skip)
     have H' := Aside0.mk H
     clear H
     have hnb18 := NB646_647.out
     have hnc18 := NB647_646.out
     have hcz19_0 : w6.cell? ⟨gb646, 0, none⟩ = some (.int .i64 a0_0) := (blk_cell BK646.out 0).trans rfl
     have hcz19_1 : w6.cell? ⟨gb646, 1, none⟩ = some (.slice A0_1 l0_1.length c0_1) := (blk_cell BK646.out 1).trans rfl
     have hfz19_0 := blk_frozen BK646.out 0
     have hfz19_1 := blk_frozen BK646.out 1
     go_wp2_with (first | ((with_reducible refine gate_callee (f := 116) rfl ?_); refine goesM_ (some 14) rfl rfl Try.func116 (by kernel_rfl) rfl #[.agg #[.int .i64 a0_0, .slice A0_1 l0_1.length c0_1]] rfl ?_; (with_reducible refine (spec_GraphOk.calls k a0_0 _ _ l0_1 true _ ?side1 ?side2 A7.out).mono ?_); (case side1 => exact Cz ((Kd.C_below HR0_1.out HB.out))); (case side2 => exact HC0_1.out); rintro e w20 ⟨rfl, hb⟩; refine ⟨_, rfl, ?_⟩; replace BK646 := Aside0.mk (blk_below (g := gb646) (o := .cells #[.int .i64 a0_0, .slice A0_1 l0_1.length c0_1] 31 (0, 0)) (Bz BK646) hb); replace BK647 := Aside0.mk (blk_below (g := gb647) (o := .cells #[.int .i64 0, .slice none 0 0] 31 (0, 0)) (Bz BK647) hb); replace HB := Aside0.mk (below_step (by exact Lz2 HB GE646 GE647) hb); (try clear hb); (try clear hb2); (try clear hk); (try clear hi); have hcz21_0 : w20.cell? ⟨gb646, 0, none⟩ = some (.int .i64 a0_0) := (blk_cell BK646.out 0).trans rfl; have hcz21_1 : w20.cell? ⟨gb646, 1, none⟩ = some (.slice A0_1 l0_1.length c0_1) := (blk_cell BK646.out 1).trans rfl; have hfz21_0 := blk_frozen BK646.out 0; have hfz21_1 := blk_frozen BK646.out 1) | (go_at_call 117; (with_reducible refine (spec_l01In.calls a1 0 (wrap64 (a0_0 - 1)) true _ A9.out).mono ?_); rintro e w' ⟨rfl, ⟨nd, rfl⟩⟩) | (go_at_call 117; (with_reducible refine (spec_l01In.calls a2 0 (wrap64 (a0_0 - 1)) true _ A11.out).mono ?_); rintro e w' ⟨rfl, ⟨nd, rfl⟩⟩))
     go_meet
     case rel => exact ⟨_, (((l0_1.length : Int) == 12)), eqA, H', ⟨by first | omega | exact Nat.le_refl _⟩, ⟨by exact Bz BK646⟩, ⟨by exact Bz BK647⟩, ⟨by exact Lz2 HB GE646 GE647⟩⟩
    replace c12 := Bool.eq_false_iff.mpr c12
    subst c12
    have H1 : (spec_AddEdge.j0 k a1 a2 true a0_0 l0_1) = some (r1, r2, r3) := by rw [if_neg (show ¬ (false = true) by decide)] at H; exact H
    clear H
    have H := H1
    clear H1
    have H' := Aside0.mk H
    clear H
    have hnb22 := NB646_647.out
    have hnc22 := NB647_646.out
    have hcz23_0 : w6.cell? ⟨gb646, 0, none⟩ = some (.int .i64 a0_0) := (blk_cell BK646.out 0).trans rfl
    have hcz23_1 : w6.cell? ⟨gb646, 1, none⟩ = some (.slice A0_1 l0_1.length c0_1) := (blk_cell BK646.out 1).trans rfl
    have hfz23_0 := blk_frozen BK646.out 0
    have hfz23_1 := blk_frozen BK646.out 1
    go_wp2_with (first | ((with_reducible refine gate_callee (f := 116) rfl ?_); refine goesM_ (some 14) rfl rfl Try.func116 (by kernel_rfl) rfl #[.agg #[.int .i64 a0_0, .slice A0_1 l0_1.length c0_1]] rfl ?_; (with_reducible refine (spec_GraphOk.calls k a0_0 _ _ l0_1 true _ ?side1 ?side2 A7.out).mono ?_); (case side1 => exact Cz ((Kd.C_below HR0_1.out HB.out))); (case side2 => exact HC0_1.out); rintro e w24 ⟨rfl, hb⟩; refine ⟨_, rfl, ?_⟩; replace BK646 := Aside0.mk (blk_below (g := gb646) (o := .cells #[.int .i64 a0_0, .slice A0_1 l0_1.length c0_1] 31 (0, 0)) (Bz BK646) hb); replace BK647 := Aside0.mk (blk_below (g := gb647) (o := .cells #[.int .i64 0, .slice none 0 0] 31 (0, 0)) (Bz BK647) hb); replace HB := Aside0.mk (below_step (by exact Lz2 HB GE646 GE647) hb); (try clear hb); (try clear hb2); (try clear hk); (try clear hi); have hcz25_0 : w24.cell? ⟨gb646, 0, none⟩ = some (.int .i64 a0_0) := (blk_cell BK646.out 0).trans rfl; have hcz25_1 : w24.cell? ⟨gb646, 1, none⟩ = some (.slice A0_1 l0_1.length c0_1) := (blk_cell BK646.out 1).trans rfl; have hfz25_0 := blk_frozen BK646.out 0; have hfz25_1 := blk_frozen BK646.out 1) | (go_at_call 117; (with_reducible refine (spec_l01In.calls a1 0 (wrap64 (a0_0 - 1)) true _ A9.out).mono ?_); rintro e w' ⟨rfl, ⟨nd, rfl⟩⟩) | (go_at_call 117; (with_reducible refine (spec_l01In.calls a2 0 (wrap64 (a0_0 - 1)) false _ A11.out).mono ?_); rintro e w' ⟨rfl, ⟨nd, rfl⟩⟩))
    go_meet
    case rel => exact ⟨_, (true), eqA, H', ⟨by first | omega | exact Nat.le_refl _⟩, ⟨by exact Bz BK646⟩, ⟨by exact Bz BK647⟩, ⟨by exact Lz2 HB GE646 GE647⟩⟩
   replace c10 := Bool.eq_false_iff.mpr c10
   subst c10
   have H1 : (spec_AddEdge.j0 k a1 a2 true a0_0 l0_1) = some (r1, r2, r3) := by rw [if_neg (show ¬ (false = true) by decide)] at H; exact H
   clear H
   have H := H1
   clear H1
   have H' := Aside0.mk H
   clear H
   have hnb26 := NB646_647.out
   have hnc26 := NB647_646.out
   have hcz27_0 : w6.cell? ⟨gb646, 0, none⟩ = some (.int .i64 a0_0) := (blk_cell BK646.out 0).trans rfl
   have hcz27_1 : w6.cell? ⟨gb646, 1, none⟩ = some (.slice A0_1 l0_1.length c0_1) := (blk_cell BK646.out 1).trans rfl
   have hfz27_0 := blk_frozen BK646.out 0
   have hfz27_1 := blk_frozen BK646.out 1
   go_wp2_with (first | ((with_reducible refine gate_callee (f := 116) rfl ?_); refine goesM_ (some 14) rfl rfl Try.func116 (by kernel_rfl) rfl #[.agg #[.int .i64 a0_0, .slice A0_1 l0_1.length c0_1]] rfl ?_; (with_reducible refine (spec_GraphOk.calls k a0_0 _ _ l0_1 true _ ?side1 ?side2 A7.out).mono ?_); (case side1 => exact Cz ((Kd.C_below HR0_1.out HB.out))); (case side2 => exact HC0_1.out); rintro e w28 ⟨rfl, hb⟩; refine ⟨_, rfl, ?_⟩; replace BK646 := Aside0.mk (blk_below (g := gb646) (o := .cells #[.int .i64 a0_0, .slice A0_1 l0_1.length c0_1] 31 (0, 0)) (Bz BK646) hb); replace BK647 := Aside0.mk (blk_below (g := gb647) (o := .cells #[.int .i64 0, .slice none 0 0] 31 (0, 0)) (Bz BK647) hb); replace HB := Aside0.mk (below_step (by exact Lz2 HB GE646 GE647) hb); (try clear hb); (try clear hb2); (try clear hk); (try clear hi); have hcz29_0 : w28.cell? ⟨gb646, 0, none⟩ = some (.int .i64 a0_0) := (blk_cell BK646.out 0).trans rfl; have hcz29_1 : w28.cell? ⟨gb646, 1, none⟩ = some (.slice A0_1 l0_1.length c0_1) := (blk_cell BK646.out 1).trans rfl; have hfz29_0 := blk_frozen BK646.out 0; have hfz29_1 := blk_frozen BK646.out 1) | (go_at_call 117; (with_reducible refine (spec_l01In.calls a1 0 (wrap64 (a0_0 - 1)) false _ A9.out).mono ?_); rintro e w' ⟨rfl, ⟨nd, rfl⟩⟩))
   go_meet
   case rel => exact ⟨_, (true), eqA, H', ⟨by first | omega | exact Nat.le_refl _⟩, ⟨by exact Bz BK646⟩, ⟨by exact Bz BK647⟩, ⟨by exact Lz2 HB GE646 GE647⟩⟩
  replace c8 := Bool.eq_false_iff.mpr c8
  subst c8
  have H1 : (spec_AddEdge.j0 k a1 a2 true a0_0 l0_1) = some (r1, r2, r3) := by rw [if_neg (show ¬ (false = true) by decide)] at H; exact H
  clear H
  have H := H1
  clear H1
  have H' := Aside0.mk H
  clear H
  have hnb30 := NB646_647.out
  have hnc30 := NB647_646.out
  have hcz31_0 : w6.cell? ⟨gb646, 0, none⟩ = some (.int .i64 a0_0) := (blk_cell BK646.out 0).trans rfl
  have hcz31_1 : w6.cell? ⟨gb646, 1, none⟩ = some (.slice A0_1 l0_1.length c0_1) := (blk_cell BK646.out 1).trans rfl
  have hfz31_0 := blk_frozen BK646.out 0
  have hfz31_1 := blk_frozen BK646.out 1
  go_wp2_with (first | ((with_reducible refine gate_callee (f := 116) rfl ?_); refine goesM_ (some 14) rfl rfl Try.func116 (by kernel_rfl) rfl #[.agg #[.int .i64 a0_0, .slice A0_1 l0_1.length c0_1]] rfl ?_; (with_reducible refine (spec_GraphOk.calls k a0_0 _ _ l0_1 false _ ?side1 ?side2 A7.out).mono ?_); (case side1 => exact Cz ((Kd.C_below HR0_1.out HB.out))); (case side2 => exact HC0_1.out); rintro e w32 ⟨rfl, hb⟩; refine ⟨_, rfl, ?_⟩; replace BK646 := Aside0.mk (blk_below (g := gb646) (o := .cells #[.int .i64 a0_0, .slice A0_1 l0_1.length c0_1] 31 (0, 0)) (Bz BK646) hb); replace BK647 := Aside0.mk (blk_below (g := gb647) (o := .cells #[.int .i64 0, .slice none 0 0] 31 (0, 0)) (Bz BK647) hb); replace HB := Aside0.mk (below_step (by exact Lz2 HB GE646 GE647) hb); (try clear hb); (try clear hb2); (try clear hk); (try clear hi)))
  go_meet
  case rel => exact ⟨_, (true), eqA, H', ⟨by first | omega | exact Nat.le_refl _⟩, ⟨by exact Bz BK646⟩, ⟨by exact Bz BK647⟩, ⟨by exact Lz2 HB GE646 GE647⟩⟩
 case rest =>
  clear HC4
  try clear c8
  try clear c10
  try clear c12
  try clear c13
  try clear c13b0
  try clear c13b1
  obtain ⟨kq, x42_3, rfl, HA, HJ3, BK646, BK647, HB⟩ := hcut
  cases kq with
  | zero => exact absurd HA.out (by simp [spec_AddEdge.j0])
  | succ kj3 =>
   have H := HA.out
   clear HA
   simp only [spec_AddEdge.j0] at H
   by_cases c33 : x42_3 = true
   ·subst c33
    have H1 : (some (0, ([] : List (S67)), false)) = some (r1, r2, r3) := by rw [if_pos rfl] at H; exact H
    clear H
    have H := H1
    clear H1
    simp only [Option.some.injEq, Prod.mk.injEq] at H
    obtain ⟨rfl, rfl, rfl⟩ := H
    have hnb34 := NB647_646.out
    have hnc34 := NB646_647.out
    have hcz35_0 : wc.cell? ⟨gb647, 0, none⟩ = some (.int .i64 0) := (blk_cell BK647.out 0).trans rfl
    have hcz35_1 : wc.cell? ⟨gb647, 1, none⟩ = some (.slice none 0 0) := (blk_cell BK647.out 1).trans rfl
    have hfz35_0 := blk_frozen BK647.out 0
    have hfz35_1 := blk_frozen BK647.out 1
    go_wp2
    refine bodyPost_ret (results_ct rfl _ _ gb647 31 #[.int .i64 0, .slice none 0 0] (0, 0) _ rfl (by (with_reducible repeat (first | refine blk_drewN ?_ _ | refine blk_drew ?_ | refine blk_alloc ?_ _)); refine blk_put (cs := #[.int .i64 0, .slice none 0 0]) ?_ 1 _ rfl; (with_reducible repeat (first | refine blk_drewN ?_ _ | refine blk_drew ?_ | refine blk_alloc ?_ _)); refine blk_put (cs := #[.int .i64 0, .slice none 0 0]) ?_ 0 _ rfl; exact Bz BK647) Try.underlying31 rfl (by kernel_rfl)) rfl ?_
    exact ⟨_, by first | rfl | (simp [errW_none, errW_some] <;> rfl) | (simp [*, errW_none, errW_some] <;> rfl), by first | exact Kd.R_nil _ _ _ _ _ | exact Kd.N_nil _ _ _ _ _ | exact Kd.V_nil _ _ _ _ _ | exact Kd.Q_nil _ _ _ _ _ | exact Kd.S_nil _ _ _ _ _, by exact Lz2 HB GE646 GE647⟩
   replace c33 := Bool.eq_false_iff.mpr c33
   subst c33
   have H1 : (spec_AddEdge.l0 kj3 false l0_1 (l0_1.length : Int) 0 (mn a1 a2) (mx a1 a2) a0_0 ([] : List (S67))) = some (r1, r2, r3) := by rw [if_neg (show ¬ (false = true) by decide)] at H; exact H
   clear H
   have H := H1
   clear H1
   obtain ⟨ji36, hji36⟩ : ∃ j_ : Int, (mn a1 a2) = j_ := ⟨_, rfl⟩
   replace H : (spec_AddEdge.l0 kj3 false l0_1 (l0_1.length : Int) 0 ji36 (mx a1 a2) a0_0 ([] : List (S67))) = some (r1, r2, r3) := by first | (rw [hji36] at H; exact H) | (simp only [hji36] at H ⊢; exact H)
   have hji36_ : (if a2 < a1 then a2 else a1) = ji36 := hji36
   obtain ⟨ji37, hji37⟩ : ∃ j_ : Int, (mx a1 a2) = j_ := ⟨_, rfl⟩
   replace H : (spec_AddEdge.l0 kj3 false l0_1 (l0_1.length : Int) 0 ji36 ji37 a0_0 ([] : List (S67))) = some (r1, r2, r3) := by first | (rw [hji37] at H; exact H) | (simp only [hji37] at H ⊢; exact H)
   have hji37_ : (if a1 < a2 then a2 else a1) = ji37 := hji37
   have H' := Aside0.mk H
   clear H
   go_wp2_with (first | ((with_reducible refine gate_dst (N := 8) rfl ?_); (try (refine gate_guard (by rfl) ?_; dsimp only)); refine box_event ?hg (N := 8) ?hd (cs := #[.int .i64 0, .int .i64 0]) (t := 67) ?hr ?_; (case hd => rfl); (case hg => rfl); (case hr => first | (go_simp; done) | (go_simp; rfl)); intro gb651 hg w38 hbox hb; have BK651 := Aside0.mk (hbox); have GW651 := Aside0.mk ((by rw [hg]; exact (below_size (by exact Lz2 HB GE646 GE647)) : w.heap.size ≤ gb651)); have GE651 := Aside0.mk ((by rw [hg]; exact (below_size (by exact Lz2 HB GE646 GE647)) : w.heap.size ≤ gb651)); replace HB := Aside0.mk (below_step (by exact Lz2 HB GE646 GE647) hb); have NB646_651 := Aside0.mk ((by rw [hg]; exact Nat.ne_of_lt (blk_lt (g := gb646) (o := .cells #[.int .i64 a0_0, .slice A0_1 l0_1.length c0_1] 31 (0, 0)) (Bz BK646)) : gb646 ≠ gb651)); have NB651_646 := Aside0.mk ((by rw [hg]; exact Nat.ne_of_gt (blk_lt (g := gb646) (o := .cells #[.int .i64 a0_0, .slice A0_1 l0_1.length c0_1] 31 (0, 0)) (Bz BK646)) : gb651 ≠ gb646)); replace BK646 := Aside0.mk (blk_below (g := gb646) (o := .cells #[.int .i64 a0_0, .slice A0_1 l0_1.length c0_1] 31 (0, 0)) (Bz BK646) hb); have NB647_651 := Aside0.mk ((by rw [hg]; exact Nat.ne_of_lt (blk_lt (g := gb647) (o := .cells #[.int .i64 0, .slice none 0 0] 31 (0, 0)) (Bz BK647)) : gb647 ≠ gb651)); have NB651_647 := Aside0.mk ((by rw [hg]; exact Nat.ne_of_gt (blk_lt (g := gb647) (o := .cells #[.int .i64 0, .slice none 0 0] 31 (0, 0)) (Bz BK647)) : gb651 ≠ gb647)); replace BK647 := Aside0.mk (blk_below (g := gb647) (o := .cells #[.int .i64 0, .slice none 0 0] 31 (0, 0)) (Bz BK647) hb); clear hb hbox hg; have hnb39 := NB651_646.out; have hnc39 := NB646_651.out; have hnb40 := NB651_647.out; have hnc40 := NB647_651.out; have hcz41_0 : w38.cell? ⟨gb651, 0, none⟩ = some (.int .i64 0) := (blk_cell BK651.out 0).trans rfl; have hcz41_1 : w38.cell? ⟨gb651, 1, none⟩ = some (.int .i64 0) := (blk_cell BK651.out 1).trans rfl; have hfz41_0 := blk_frozen BK651.out 0; have hfz41_1 := blk_frozen BK651.out 1; have hnb42 := NB646_647.out; have hnc42 := NB647_646.out; have hcz43_0 : w38.cell? ⟨gb646, 0, none⟩ = some (.int .i64 a0_0) := (blk_cell BK646.out 0).trans rfl; have hcz43_1 : w38.cell? ⟨gb646, 1, none⟩ = some (.slice A0_1 l0_1.length c0_1) := (blk_cell BK646.out 1).trans rfl; have hfz43_0 := blk_frozen BK646.out 0; have hfz43_1 := blk_frozen BK646.out 1) | ((with_reducible refine gate_dst (N := 9) rfl ?_); (try (refine gate_guard (by rfl) ?_; dsimp only)); refine box_event ?hg (N := 9) ?hd (cs := #[.int .i64 0, .slice none 0 0]) (t := 31) ?hr ?_; (case hd => rfl); (case hg => rfl); (case hr => first | (go_simp; done) | (go_simp; rfl)); intro gb652 hg w44 hbox hb; have BK652 := Aside0.mk (hbox); have GW652 := Aside0.mk ((by rw [hg]; exact (below_size (by exact Lz3 HB GE646 GE647 GE651)) : w.heap.size ≤ gb652)); have GE652 := Aside0.mk ((by rw [hg]; exact (below_size (by exact Lz3 HB GE646 GE647 GE651)) : w.heap.size ≤ gb652)); replace HB := Aside0.mk (below_step (by exact Lz3 HB GE646 GE647 GE651) hb); have NB646_652 := Aside0.mk ((by rw [hg]; exact Nat.ne_of_lt (blk_lt (g := gb646) (o := .cells #[.int .i64 a0_0, .slice A0_1 l0_1.length c0_1] 31 (0, 0)) (by (with_reducible repeat (first | refine blk_drewN ?_ _ | refine blk_drew ?_ | refine blk_alloc ?_ _)); refine blk_far ?_ NB646_651.out _; (with_reducible repeat (first | refine blk_drewN ?_ _ | refine blk_drew ?_ | refine blk_alloc ?_ _)); refine blk_far ?_ NB646_651.out _; exact Bz BK646)) : gb646 ≠ gb652)); have NB652_646 := Aside0.mk ((by rw [hg]; exact Nat.ne_of_gt (blk_lt (g := gb646) (o := .cells #[.int .i64 a0_0, .slice A0_1 l0_1.length c0_1] 31 (0, 0)) (by (with_reducible repeat (first | refine blk_drewN ?_ _ | refine blk_drew ?_ | refine blk_alloc ?_ _)); refine blk_far ?_ NB646_651.out _; (with_reducible repeat (first | refine blk_drewN ?_ _ | refine blk_drew ?_ | refine blk_alloc ?_ _)); refine blk_far ?_ NB646_651.out _; exact Bz BK646)) : gb652 ≠ gb646)); replace BK646 := Aside0.mk (blk_below (g := gb646) (o := .cells #[.int .i64 a0_0, .slice A0_1 l0_1.length c0_1] 31 (0, 0)) (by (with_reducible repeat (first | refine blk_drewN ?_ _ | refine blk_drew ?_ | refine blk_alloc ?_ _)); refine blk_far ?_ NB646_651.out _; (with_reducible repeat (first | refine blk_drewN ?_ _ | refine blk_drew ?_ | refine blk_alloc ?_ _)); refine blk_far ?_ NB646_651.out _; exact Bz BK646) hb); have NB647_652 := Aside0.mk ((by rw [hg]; exact Nat.ne_of_lt (blk_lt (g := gb647) (o := .cells #[.int .i64 0, .slice none 0 0] 31 (0, 0)) (by (with_reducible repeat (first | refine blk_drewN ?_ _ | refine blk_drew ?_ | refine blk_alloc ?_ _)); refine blk_far ?_ NB647_651.out _; (with_reducible repeat (first | refine blk_drewN ?_ _ | refine blk_drew ?_ | refine blk_alloc ?_ _)); refine blk_far ?_ NB647_651.out _; exact Bz BK647)) : gb647 ≠ gb652)); have NB652_647 := Aside0.mk ((by rw [hg]; exact Nat.ne_of_gt (blk_lt (g := gb647) (o := .cells #[.int .i64 0, .slice none 0 0] 31 (0, 0)) (by (with_reducible repeat (first | refine blk_drewN ?_ _ | refine blk_drew ?_ | refine blk_alloc ?_ _)); refine blk_far ?_ NB647_651.out _; (with_reducible repeat (first | refine blk_drewN ?_ _ | refine blk_drew ?_ | refine blk_alloc ?_ _)); refine blk_far ?_ NB647_651.out _; exact Bz BK647)) : gb652 ≠ gb647)); replace BK647 := Aside0.mk (blk_below (g := gb647) (o := .cells #[.int .i64 0, .slice none 0 0] 31 (0, 0)) (by (with_reducible repeat (first | refine blk_drewN ?_ _ | refine blk_drew ?_ | refine blk_alloc ?_ _)); refine blk_far ?_ NB647_651.out _; (with_reducible repeat (first | refine blk_drewN ?_ _ | refine blk_drew ?_ | refine blk_alloc ?_ _)); refine blk_far ?_ NB647_651.out _; exact Bz BK647) hb); have NB651_652 := Aside0.mk ((by rw [hg]; exact Nat.ne_of_lt (blk_lt (g := gb651) (o := .cells #[.int .i64 ji36, .int .i64 ji37] 67 (0, 0)) (by (with_reducible repeat (first | refine blk_drewN ?_ _ | refine blk_drew ?_ | refine blk_alloc ?_ _)); refine blk_put (cs := #[.int .i64 ji36, .int .i64 0]) ?_ 1 _ rfl; (with_reducible repeat (first | refine blk_drewN ?_ _ | refine blk_drew ?_ | refine blk_alloc ?_ _)); refine blk_put (cs := #[.int .i64 0, .int .i64 0]) ?_ 0 _ rfl; exact Bz BK651)) : gb651 ≠ gb652)); have NB652_651 := Aside0.mk ((by rw [hg]; exact Nat.ne_of_gt (blk_lt (g := gb651) (o := .cells #[.int .i64 ji36, .int .i64 ji37] 67 (0, 0)) (by (with_reducible repeat (first | refine blk_drewN ?_ _ | refine blk_drew ?_ | refine blk_alloc ?_ _)); refine blk_put (cs := #[.int .i64 ji36, .int .i64 0]) ?_ 1 _ rfl; (with_reducible repeat (first | refine blk_drewN ?_ _ | refine blk_drew ?_ | refine blk_alloc ?_ _)); refine blk_put (cs := #[.int .i64 0, .int .i64 0]) ?_ 0 _ rfl; exact Bz BK651)) : gb652 ≠ gb651)); replace BK651 := Aside0.mk (blk_below (g := gb651) (o := .cells #[.int .i64 ji36, .int .i64 ji37] 67 (0, 0)) (by (with_reducible repeat (first | refine blk_drewN ?_ _ | refine blk_drew ?_ | refine blk_alloc ?_ _)); refine blk_put (cs := #[.int .i64 ji36, .int .i64 0]) ?_ 1 _ rfl; (with_reducible repeat (first | refine blk_drewN ?_ _ | refine blk_drew ?_ | refine blk_alloc ?_ _)); refine blk_put (cs := #[.int .i64 0, .int .i64 0]) ?_ 0 _ rfl; exact Bz BK651) hb); clear hb hbox hg; have hnb45 := NB652_646.out; have hnc45 := NB646_652.out; have hnb46 := NB652_647.out; have hnc46 := NB647_652.out; have hnb47 := NB652_651.out; have hnc47 := NB651_652.out; have hcz48_0 : w44.cell? ⟨gb652, 0, none⟩ = some (.int .i64 0) := (blk_cell BK652.out 0).trans rfl; have hcz48_1 : w44.cell? ⟨gb652, 1, none⟩ = some (.slice none 0 0) := (blk_cell BK652.out 1).trans rfl; have hfz48_0 := blk_frozen BK652.out 0; have hfz48_1 := blk_frozen BK652.out 1; have hcz49_0 : w44.cell? ⟨gb646, 0, none⟩ = some (.int .i64 a0_0) := (blk_cell BK646.out 0).trans rfl; have hcz49_1 : w44.cell? ⟨gb646, 1, none⟩ = some (.slice A0_1 l0_1.length c0_1) := (blk_cell BK646.out 1).trans rfl; have hfz49_0 := blk_frozen BK646.out 0; have hfz49_1 := blk_frozen BK646.out 1))
   go_loopg [10, 57] kj3 (fun kq v10 v57 w' => ∃ (x10_2 : Bool) (x57_2 : Int) (x653001_2 : List (S67)) (u653001 : Value), v10 = .bool x10_2 ∧ v57 = .int .i64 x57_2 ∧ Aside0 (spec_AddEdge.l0 kq x10_2 l0_1 (l0_1.length : Int) x57_2 ji36 ji37 a0_0 x653001_2 = some (r1, r2, r3)) ∧ Aside0 (kq ≤ kj3) ∧ Aside0 (Kd.R k67 67 w' w.heap.size (fun k_ => k_ ≠ gb651) u653001 x653001_2) ∧ Aside0 (w'.heap[gb646]? = some (.cells #[.int .i64 a0_0, (.slice A0_1 l0_1.length c0_1)] 31 (0, 0))) ∧ Aside0 (w'.heap[gb647]? = some (.cells #[.int .i64 0, (.slice none 0 0)] 31 (0, 0))) ∧ Aside0 (w'.heap[gb651]? = some (.cells #[.int .i64 ji36, .int .i64 ji37] 67 (0, 0))) ∧ Aside0 (w'.heap[gb652]? = some (.cells #[.int .i64 a0_0, u653001] 31 (0, 0))) ∧ Aside0 (Below w.heap.size w w'))
   case atStart => exact ⟨(false), (0), (([] : List (S67))), (.slice none 0 0), eqA, eqA, H', ⟨Nat.le_refl _⟩, ⟨by first | exact Kd.R_nil _ _ _ _ _ | exact Kd.N_nil _ _ _ _ _ | exact Kd.V_nil _ _ _ _ _ | exact Kd.Q_nil _ _ _ _ _ | exact Kd.S_nil _ _ _ _ _⟩, ⟨by (with_reducible repeat (first | refine blk_drewN ?_ _ | refine blk_drew ?_ | refine blk_alloc ?_ _)); refine blk_far ?_ NB646_652.out _; (with_reducible repeat (first | refine blk_drewN ?_ _ | refine blk_drew ?_ | refine blk_alloc ?_ _)); refine blk_far ?_ NB646_652.out _; exact Bz BK646⟩, ⟨by (with_reducible repeat (first | refine blk_drewN ?_ _ | refine blk_drew ?_ | refine blk_alloc ?_ _)); refine blk_far ?_ NB647_652.out _; (with_reducible repeat (first | refine blk_drewN ?_ _ | refine blk_drew ?_ | refine blk_alloc ?_ _)); refine blk_far ?_ NB647_652.out _; exact Bz BK647⟩, ⟨by (with_reducible repeat (first | refine blk_drewN ?_ _ | refine blk_drew ?_ | refine blk_alloc ?_ _)); refine blk_far ?_ NB651_652.out _; (with_reducible repeat (first | refine blk_drewN ?_ _ | refine blk_drew ?_ | refine blk_alloc ?_ _)); refine blk_far ?_ NB651_652.out _; exact Bz BK651⟩, ⟨by (with_reducible repeat (first | refine blk_drewN ?_ _ | refine blk_drew ?_ | refine blk_alloc ?_ _)); refine blk_put (cs := #[.int .i64 a0_0, .slice none 0 0]) ?_ 1 _ rfl; (with_reducible repeat (first | refine blk_drewN ?_ _ | refine blk_drew ?_ | refine blk_alloc ?_ _)); refine blk_put (cs := #[.int .i64 0, .slice none 0 0]) ?_ 0 _ rfl; exact Bz BK652⟩, ⟨by first | exact Lz HB | repeat (first | (with_reducible first | exact HB.out | apply below_alloc | apply pw_below_drewN | apply below_drew1 | refine below_set ?_ GE646.out | refine below_set ?_ GE647.out | refine below_set ?_ GE651.out | refine below_set ?_ GE652.out) | exact HB.out)⟩⟩
   case round =>
    clear H'
    try clear c8
    try clear c10
    try clear c12
    try clear c13
    try clear c13b0
    try clear c13b1
    try clear c33
    obtain ⟨x10_2, x57_2, x653001_2, u653001, rfl, rfl, HA, HK2, HO_653001, BK646, BK647, BK651, BK652, HB⟩ := hrel
    cases gk with
    | zero => exact absurd HA.out (by simp [spec_AddEdge.l0])
    | succ k2 =>
     have H := HA.out
     clear HA
     simp only [spec_AddEdge.l0] at H
     by_cases c50 : x57_2 < (l0_1.length : Int)
     ·rw [if_pos c50] at H
      have c50b0 : decide (x57_2 < (l0_1.length : Int)) = true := decide_eq_true c50
      clear c50
      by_cases c51 : 0 ≤ x57_2
      ·rw [if_pos c51] at H
       have c51b0 : decide (0 ≤ x57_2) = true := decide_eq_true c51
       clear c51
       by_cases c52 : x57_2 < (l0_1.length : Int)
       ·rw [if_pos c52] at H
        have c52b0 : decide (x57_2 < (l0_1.length : Int)) = true := decide_eq_true c52
        clear c52
        have HC53 := Aside0.mk H
        clear H
        have p653 : 0 ≤ (x57_2 : Int) := ofA
        have q653 : x57_2 < (l0_1.length : Int) := ofA
        obtain ⟨ad653, e653, hx653_0, hx653_1⟩ := at_T67 HR0_1.out x57_2 p653 q653
        cases e653
        replace hx653_0 := (HB.out.cell (World.block_lt_of_cell? w _ hx653_0)).trans hx653_0
        replace hx653_1 := (HB.out.cell (World.block_lt_of_cell? w _ hx653_1)).trans hx653_1
        replace p653 := eq_true p653
        replace q653 := eq_true q653
        go_upto_region 9 with (first | ((with_reducible refine gate_dst (N := 12) rfl ?_); (try (refine gate_guard (by rfl) ?_; dsimp only)); refine box_event ?hg (N := 12) ?hd (cs := #[.int .i64 0, .int .i64 0]) (t := 67) ?hr ?_; (case hd => rfl); (case hg => rfl); (case hr => first | (go_simp; done) | (go_simp; rfl)); intro gb654 hg w54 hbox hb; replace HO_653001 := Aside0.mk (Kd.R_below (Kd.R_elderB (Rz HO_653001) gb654 (Nat.le_of_eq hg.symm)) hb); have BK654 := Aside0.mk (hbox); have GW654 := Aside0.mk ((by rw [hg]; exact (below_size (by first | exact Lz HB | repeat (first | (with_reducible first | exact HB.out | apply below_alloc | apply pw_below_drewN | apply below_drew1 | refine below_set ?_ GE646.out | refine below_set ?_ GE647.out | refine below_set ?_ GE651.out | refine below_set ?_ GE652.out) | exact HB.out))) : w.heap.size ≤ gb654)); have GE654 := Aside0.mk ((by rw [hg]; exact (below_size (by first | exact Lz HB | repeat (first | (with_reducible first | exact HB.out | apply below_alloc | apply pw_below_drewN | apply below_drew1 | refine below_set ?_ GE646.out | refine below_set ?_ GE647.out | refine below_set ?_ GE651.out | refine below_set ?_ GE652.out) | exact HB.out))) : w.heap.size ≤ gb654)); replace HB := Aside0.mk (below_step (by first | exact Lz HB | repeat (first | (with_reducible first | exact HB.out | apply below_alloc | apply pw_below_drewN | apply below_drew1 | refine below_set ?_ GE646.out | refine below_set ?_ GE647.out | refine below_set ?_ GE651.out | refine below_set ?_ GE652.out) | exact HB.out)) hb); have NB646_654 := Aside0.mk ((by rw [hg]; exact Nat.ne_of_lt (blk_lt (g := gb646) (o := .cells #[.int .i64 a0_0, .slice (some ad653) l0_1.length c0_1] 31 (0, 0)) (Bz BK646)) : gb646 ≠ gb654)); have NB654_646 := Aside0.mk ((by rw [hg]; exact Nat.ne_of_gt (blk_lt (g := gb646) (o := .cells #[.int .i64 a0_0, .slice (some ad653) l0_1.length c0_1] 31 (0, 0)) (Bz BK646)) : gb654 ≠ gb646)); replace BK646 := Aside0.mk (blk_below (g := gb646) (o := .cells #[.int .i64 a0_0, .slice (some ad653) l0_1.length c0_1] 31 (0, 0)) (Bz BK646) hb); have NB647_654 := Aside0.mk ((by rw [hg]; exact Nat.ne_of_lt (blk_lt (g := gb647) (o := .cells #[.int .i64 0, .slice none 0 0] 31 (0, 0)) (Bz BK647)) : gb647 ≠ gb654)); have NB654_647 := Aside0.mk ((by rw [hg]; exact Nat.ne_of_gt (blk_lt (g := gb647) (o := .cells #[.int .i64 0, .slice none 0 0] 31 (0, 0)) (Bz BK647)) : gb654 ≠ gb647)); replace BK647 := Aside0.mk (blk_below (g := gb647) (o := .cells #[.int .i64 0, .slice none 0 0] 31 (0, 0)) (Bz BK647) hb); have NB651_654 := Aside0.mk ((by rw [hg]; exact Nat.ne_of_lt (blk_lt (g := gb651) (o := .cells #[.int .i64 ji36, .int .i64 ji37] 67 (0, 0)) (Bz BK651)) : gb651 ≠ gb654)); have NB654_651 := Aside0.mk ((by rw [hg]; exact Nat.ne_of_gt (blk_lt (g := gb651) (o := .cells #[.int .i64 ji36, .int .i64 ji37] 67 (0, 0)) (Bz BK651)) : gb654 ≠ gb651)); replace BK651 := Aside0.mk (blk_below (g := gb651) (o := .cells #[.int .i64 ji36, .int .i64 ji37] 67 (0, 0)) (Bz BK651) hb); have NB652_654 := Aside0.mk ((by rw [hg]; exact Nat.ne_of_lt (blk_lt (g := gb652) (o := .cells #[.int .i64 a0_0, u653001] 31 (0, 0)) (Bz BK652)) : gb652 ≠ gb654)); have NB654_652 := Aside0.mk ((by rw [hg]; exact Nat.ne_of_gt (blk_lt (g := gb652) (o := .cells #[.int .i64 a0_0, u653001] 31 (0, 0)) (Bz BK652)) : gb654 ≠ gb652)); replace BK652 := Aside0.mk (blk_below (g := gb652) (o := .cells #[.int .i64 a0_0, u653001] 31 (0, 0)) (Bz BK652) hb); clear hb hbox hg; have hnb55 := NB654_646.out; have hnc55 := NB646_654.out; have hnb56 := NB654_647.out; have hnc56 := NB647_654.out; have hnb57 := NB654_651.out; have hnc57 := NB651_654.out; have hnb58 := NB654_652.out; have hnc58 := NB652_654.out; have hcz59_0 : w54.cell? ⟨gb654, 0, none⟩ = some (.int .i64 0) := (blk_cell BK654.out 0).trans rfl; have hcz59_1 : w54.cell? ⟨gb654, 1, none⟩ = some (.int .i64 0) := (blk_cell BK654.out 1).trans rfl; have hfz59_0 := blk_frozen BK654.out 0; have hfz59_1 := blk_frozen BK654.out 1))
        (try simp only [Act.put, List.setIfInBounds_toArray, List.set_cons_zero, List.set_cons_succ])
        go_cut [83] (fun v83 wc => ∃ (kq : Nat) (x83_52 : Bool), v83 = .bool x83_52 ∧ Aside0 (spec_AddEdge.j2 kq x10_2 l0_1 (l0_1.length : Int) x57_2 x83_52 ji36 ji37 a0_0 x653001_2 ((rd_T67 l0_1 x57_2).f0) ((rd_T67 l0_1 x57_2).f1) = some (r1, r2, r3)) ∧ Aside0 (kq ≤ k2) ∧ Aside0 (Kd.R k67 67 wc w.heap.size (fun k_ => k_ ≠ gb651 ∧ k_ ≠ gb654) u653001 x653001_2) ∧ Aside0 (wc.heap[gb646]? = some (.cells #[.int .i64 a0_0, (.slice (some ad653) l0_1.length c0_1)] 31 (0, 0))) ∧ Aside0 (wc.heap[gb647]? = some (.cells #[.int .i64 0, (.slice none 0 0)] 31 (0, 0))) ∧ Aside0 (wc.heap[gb651]? = some (.cells #[.int .i64 ji36, .int .i64 ji37] 67 (0, 0))) ∧ Aside0 (wc.heap[gb652]? = some (.cells #[.int .i64 a0_0, u653001] 31 (0, 0))) ∧ Aside0 (wc.heap[gb654]? = some (.cells #[.int .i64 ((rd_T67 l0_1 x57_2).f0), .int .i64 ((rd_T67 l0_1 x57_2).f1)] 67 (0, 0))) ∧ Aside0 (Below w.heap.size w wc))
        case first =>
         have H := HC53.out
         clear HC53
         by_cases c60 : x10_2 = true
         ·subst c60
          have H1 : (spec_AddEdge.j2 k2 true l0_1 (l0_1.length : Int) x57_2 false ji36 ji37 a0_0 x653001_2 ((rd_T67 l0_1 x57_2).f0) ((rd_T67 l0_1 x57_2).f1)) = some (r1, r2, r3) := by rw [if_pos rfl] at H; exact H
          clear H
          have H := H1
          clear H1
          have H' := Aside0.mk H
          clear H
          go_wp2
          go_meet
          case rel => exact ⟨_, (false), eqA, H', ⟨by have := HJ3.out; have := HK2.out; first | omega | exact Nat.le_refl _⟩, ⟨by (with_reducible repeat (first | apply Kd.R_alloc | apply Kd.R_drewN | apply Kd.R_drew)); exact Kd.R_mono (Kd.R_far (p := ⟨gb654, 1, none⟩) (Kd.R_far (p := ⟨gb654, 0, none⟩) (Kd.R_mono HO_653001.out (fun k_ hk => (⟨hk, hk.2⟩ : _ ∧ k_ ≠ gb654))) (fun _ hk => hk.2) (.int .i64 ((rd_T67 l0_1 x57_2).f0))) (fun _ hk => hk.2) (.int .i64 ((rd_T67 l0_1 x57_2).f1))) (fun _ hk => ⟨hk.1.1, hk.1.2⟩)⟩, ⟨by (with_reducible repeat (first | refine blk_drewN ?_ _ | refine blk_drew ?_ | refine blk_alloc ?_ _)); refine blk_far ?_ NB646_654.out _; (with_reducible repeat (first | refine blk_drewN ?_ _ | refine blk_drew ?_ | refine blk_alloc ?_ _)); refine blk_far ?_ NB646_654.out _; exact Bz BK646⟩, ⟨by (with_reducible repeat (first | refine blk_drewN ?_ _ | refine blk_drew ?_ | refine blk_alloc ?_ _)); refine blk_far ?_ NB647_654.out _; (with_reducible repeat (first | refine blk_drewN ?_ _ | refine blk_drew ?_ | refine blk_alloc ?_ _)); refine blk_far ?_ NB647_654.out _; exact Bz BK647⟩, ⟨by (with_reducible repeat (first | refine blk_drewN ?_ _ | refine blk_drew ?_ | refine blk_alloc ?_ _)); refine blk_far ?_ NB651_654.out _; (with_reducible repeat (first | refine blk_drewN ?_ _ | refine blk_drew ?_ | refine blk_alloc ?_ _)); refine blk_far ?_ NB651_654.out _; exact Bz BK651⟩, ⟨by (with_reducible repeat (first | refine blk_drewN ?_ _ | refine blk_drew ?_ | refine blk_alloc ?_ _)); refine blk_far ?_ NB652_654.out _; (with_reducible repeat (first | refine blk_drewN ?_ _ | refine blk_drew ?_ | refine blk_alloc ?_ _)); refine blk_far ?_ NB652_654.out _; exact Bz BK652⟩, ⟨by (with_reducible repeat (first | refine blk_drewN ?_ _ | refine blk_drew ?_ | refine blk_alloc ?_ _)); refine blk_put (cs := #[.int .i64 ((rd_T67 l0_1 x57_2).f0), .int .i64 0]) ?_ 1 _ rfl; (with_reducible repeat (first | refine blk_drewN ?_ _ | refine blk_drew ?_ | refine blk_alloc ?_ _)); refine blk_put (cs := #[.int .i64 0, .int .i64 0]) ?_ 0 _ rfl; exact Bz BK654⟩, ⟨by first | exact Lz HB | repeat (first | (with_reducible first | exact HB.out | apply below_alloc | apply pw_below_drewN | apply below_drew1 | refine below_set ?_ GE646.out | refine below_set ?_ GE647.out | refine below_set ?_ GE651.out | refine below_set ?_ GE652.out | refine below_set ?_ GE654.out) | exact HB.out)⟩⟩
         replace c60 := Bool.eq_false_iff.mpr c60
         subst c60
         have H1 : (if ((rd_T67 l0_1 x57_2).f0) > ji36 then (spec_AddEdge.j2 k2 false l0_1 (l0_1.length : Int) x57_2 true ji36 ji37 a0_0 x653001_2 ((rd_T67 l0_1 x57_2).f0) ((rd_T67 l0_1 x57_2).f1)) else (if ((rd_T67 l0_1 x57_2).f0) = ji36 then (spec_AddEdge.j2 k2 false l0_1 (l0_1.length : Int) x57_2 (decide (((rd_T67 l0_1 x57_2).f1) > ji37)) ji36 ji37 a0_0 x653001_2 ((rd_T67 l0_1 x57_2).f0) ((rd_T67 l0_1 x57_2).f1)) else (spec_AddEdge.j2 k2 false l0_1 (l0_1.length : Int) x57_2 false ji36 ji37 a0_0 x653001_2 ((rd_T67 l0_1 x57_2).f0) ((rd_T67 l0_1 x57_2).f1)))) = some (r1, r2, r3) := by rw [if_neg (show ¬ (false = true) by decide)] at H; exact H
         clear H
         have H := H1
         clear H1
         by_cases c61 : ((rd_T67 l0_1 x57_2).f0) > ji36
         ·rw [if_pos c61] at H
          have c61b0 : decide (ji36 < ((rd_T67 l0_1 x57_2).f0)) = true := decide_eq_true c61
          clear c61
          (first | rw [c61b0] | (simp only [i64_w, i32_w]; rw [c61b0]) | skip)
          have H' := Aside0.mk H
          clear H
          have hnb62 := NB654_646.out
          have hnc62 := NB646_654.out
          have hnb63 := NB654_647.out
          have hnc63 := NB647_654.out
          have hnb64 := NB654_651.out
          have hnc64 := NB651_654.out
          have hnb65 := NB654_652.out
          have hnc65 := NB652_654.out
          have hcz66_0 : w54.cell? ⟨gb654, 0, none⟩ = some (.int .i64 0) := (blk_cell BK654.out 0).trans rfl
          have hcz66_1 : w54.cell? ⟨gb654, 1, none⟩ = some (.int .i64 0) := (blk_cell BK654.out 1).trans rfl
          have hfz66_0 := blk_frozen BK654.out 0
          have hfz66_1 := blk_frozen BK654.out 1
          have hnb67 := NB651_646.out
          have hnc67 := NB646_651.out
          have hnb68 := NB651_647.out
          have hnc68 := NB647_651.out
          have hnb69 := NB651_652.out
          have hnc69 := NB652_651.out
          have hcz70_0 : w54.cell? ⟨gb651, 0, none⟩ = some (.int .i64 ji36) := (blk_cell BK651.out 0).trans rfl
          have hcz70_1 : w54.cell? ⟨gb651, 1, none⟩ = some (.int .i64 ji37) := (blk_cell BK651.out 1).trans rfl
          have hfz70_0 := blk_frozen BK651.out 0
          have hfz70_1 := blk_frozen BK651.out 1
          go_wp2
          go_meet
          case rel => exact ⟨_, (true), eqA, H', ⟨by have := HJ3.out; have := HK2.out; first | omega | exact Nat.le_refl _⟩, ⟨by (with_reducible repeat (first | apply Kd.R_alloc | apply Kd.R_drewN | apply Kd.R_drew)); exact Kd.R_mono (Kd.R_far (p := ⟨gb654, 1, none⟩) (Kd.R_far (p := ⟨gb654, 0, none⟩) (Kd.R_mono HO_653001.out (fun k_ hk => (⟨hk, hk.2⟩ : _ ∧ k_ ≠ gb654))) (fun _ hk => hk.2) (.int .i64 ((rd_T67 l0_1 x57_2).f0))) (fun _ hk => hk.2) (.int .i64 ((rd_T67 l0_1 x57_2).f1))) (fun _ hk => ⟨hk.1.1, hk.1.2⟩)⟩, ⟨by (with_reducible repeat (first | refine blk_drewN ?_ _ | refine blk_drew ?_ | refine blk_alloc ?_ _)); refine blk_far ?_ NB646_654.out _; (with_reducible repeat (first | refine blk_drewN ?_ _ | refine blk_drew ?_ | refine blk_alloc ?_ _)); refine blk_far ?_ NB646_654.out _; exact Bz BK646⟩, ⟨by (with_reducible repeat (first | refine blk_drewN ?_ _ | refine blk_drew ?_ | refine blk_alloc ?_ _)); refine blk_far ?_ NB647_654.out _; (with_reducible repeat (first | refine blk_drewN ?_ _ | refine blk_drew ?_ | refine blk_alloc ?_ _)); refine blk_far ?_ NB647_654.out _; exact Bz BK647⟩, ⟨by (with_reducible repeat (first | refine blk_drewN ?_ _ | refine blk_drew ?_ | refine blk_alloc ?_ _)); refine blk_far ?_ NB651_654.out _; (with_reducible repeat (first | refine blk_drewN ?_ _ | refine blk_drew ?_ | refine blk_alloc ?_ _)); refine blk_far ?_ NB651_654.out _; exact Bz BK651⟩, ⟨by (with_reducible repeat (first | refine blk_drewN ?_ _ | refine blk_drew ?_ | refine blk_alloc ?_ _)); refine blk_far ?_ NB652_654.out _; (with_reducible repeat (first | refine blk_drewN ?_ _ | refine blk_drew ?_ | refine blk_alloc ?_ _)); refine blk_far ?_ NB652_654.out _; exact Bz BK652⟩, ⟨by (with_reducible repeat (first | refine blk_drewN ?_ _ | refine blk_drew ?_ | refine blk_alloc ?_ _)); refine blk_put (cs := #[.int .i64 ((rd_T67 l0_1 x57_2).f0), .int .i64 0]) ?_ 1 _ rfl; (with_reducible repeat (first | refine blk_drewN ?_ _ | refine blk_drew ?_ | refine blk_alloc ?_ _)); refine blk_put (cs := #[.int .i64 0, .int .i64 0]) ?_ 0 _ rfl; exact Bz BK654⟩, ⟨by first | exact Lz HB | repeat (first | (with_reducible first | exact HB.out | apply below_alloc | apply pw_below_drewN | apply below_drew1 | refine below_set ?_ GE646.out | refine below_set ?_ GE647.out | refine below_set ?_ GE651.out | refine below_set ?_ GE652.out | refine below_set ?_ GE654.out) | exact HB.out)⟩⟩
         rw [if_neg c61] at H
         have c61b0 : decide (ji36 < ((rd_T67 l0_1 x57_2).f0)) = false := decide_eq_false c61
         clear c61
         (first | rw [c61b0] | (simp only [i64_w, i32_w]; rw [c61b0]) | skip)
         by_cases c71 : ((rd_T67 l0_1 x57_2).f0) = ji36
         ·rw [if_pos c71] at H
          have c71b0 : (((rd_T67 l0_1 x57_2).f0) == ji36) = true := beq_iff_eq.mpr c71
          have c71b1 : (((rd_T67 l0_1 x57_2).f0) != ji36) = false := bne_eq_false_iff_eq.mpr c71
          clear c71
          have H' := Aside0.mk H
          clear H
          have hnb72 := NB654_646.out
          have hnc72 := NB646_654.out
          have hnb73 := NB654_647.out
          have hnc73 := NB647_654.out
          have hnb74 := NB654_651.out
          have hnc74 := NB651_654.out
          have hnb75 := NB654_652.out
          have hnc75 := NB652_654.out
          have hcz76_0 : w54.cell? ⟨gb654, 0, none⟩ = some (.int .i64 0) := (blk_cell BK654.out 0).trans rfl
          have hcz76_1 : w54.cell? ⟨gb654, 1, none⟩ = some (.int .i64 0) := (blk_cell BK654.out 1).trans rfl
          have hfz76_0 := blk_frozen BK654.out 0
          have hfz76_1 := blk_frozen BK654.out 1
          have hnb77 := NB651_646.out
          have hnc77 := NB646_651.out
          have hnb78 := NB651_647.out
          have hnc78 := NB647_651.out
          have hnb79 := NB651_652.out
          have hnc79 := NB652_651.out
          have hcz80_0 : w54.cell? ⟨gb651, 0, none⟩ = some (.int .i64 ji36) := (blk_cell BK651.out 0).trans rfl
          have hcz80_1 : w54.cell? ⟨gb651, 1, none⟩ = some (.int .i64 ji37) := (blk_cell BK651.out 1).trans rfl
          have hfz80_0 := blk_frozen BK651.out 0
          have hfz80_1 := blk_frozen BK651.out 1
          go_wp2
          go_meet
          case rel => exact ⟨_, (decide (((rd_T67 l0_1 x57_2).f1) > ji37)), (by first | rfl | (simp; done) | (simp only [← hji37] <;> (first | rfl | simp)) | (simp [*]; done)), H', ⟨by have := HJ3.out; have := HK2.out; first | omega | exact Nat.le_refl _⟩, ⟨by (with_reducible repeat (first | apply Kd.R_alloc | apply Kd.R_drewN | apply Kd.R_drew)); exact Kd.R_mono (Kd.R_far (p := ⟨gb654, 1, none⟩) (Kd.R_far (p := ⟨gb654, 0, none⟩) (Kd.R_mono HO_653001.out (fun k_ hk => (⟨hk, hk.2⟩ : _ ∧ k_ ≠ gb654))) (fun _ hk => hk.2) (.int .i64 ((rd_T67 l0_1 x57_2).f0))) (fun _ hk => hk.2) (.int .i64 ((rd_T67 l0_1 x57_2).f1))) (fun _ hk => ⟨hk.1.1, hk.1.2⟩)⟩, ⟨by (with_reducible repeat (first | refine blk_drewN ?_ _ | refine blk_drew ?_ | refine blk_alloc ?_ _)); refine blk_far ?_ NB646_654.out _; (with_reducible repeat (first | refine blk_drewN ?_ _ | refine blk_drew ?_ | refine blk_alloc ?_ _)); refine blk_far ?_ NB646_654.out _; exact Bz BK646⟩, ⟨by (with_reducible repeat (first | refine blk_drewN ?_ _ | refine blk_drew ?_ | refine blk_alloc ?_ _)); refine blk_far ?_ NB647_654.out _; (with_reducible repeat (first | refine blk_drewN ?_ _ | refine blk_drew ?_ | refine blk_alloc ?_ _)); refine blk_far ?_ NB647_654.out _; exact Bz BK647⟩, ⟨by (with_reducible repeat (first | refine blk_drewN ?_ _ | refine blk_drew ?_ | refine blk_alloc ?_ _)); refine blk_far ?_ NB651_654.out _; (with_reducible repeat (first | refine blk_drewN ?_ _ | refine blk_drew ?_ | refine blk_alloc ?_ _)); refine blk_far ?_ NB651_654.out _; exact Bz BK651⟩, ⟨by (with_reducible repeat (first | refine blk_drewN ?_ _ | refine blk_drew ?_ | refine blk_alloc ?_ _)); refine blk_far ?_ NB652_654.out _; (with_reducible repeat (first | refine blk_drewN ?_ _ | refine blk_drew ?_ | refine blk_alloc ?_ _)); refine blk_far ?_ NB652_654.out _; exact Bz BK652⟩, ⟨by (with_reducible repeat (first | refine blk_drewN ?_ _ | refine blk_drew ?_ | refine blk_alloc ?_ _)); refine blk_put (cs := #[.int .i64 ((rd_T67 l0_1 x57_2).f0), .int .i64 0]) ?_ 1 _ rfl; (with_reducible repeat (first | refine blk_drewN ?_ _ | refine blk_drew ?_ | refine blk_alloc ?_ _)); refine blk_put (cs := #[.int .i64 0, .int .i64 0]) ?_ 0 _ rfl; exact Bz BK654⟩, ⟨by first | exact Lz HB | repeat (first | (with_reducible first | exact HB.out | apply below_alloc | apply pw_below_drewN | apply below_drew1 | refine below_set ?_ GE646.out | refine below_set ?_ GE647.out | refine below_set ?_ GE651.out | refine below_set ?_ GE652.out | refine below_set ?_ GE654.out) | exact HB.out)⟩⟩
         rw [if_neg c71] at H
         have c71b0 : (((rd_T67 l0_1 x57_2).f0) == ji36) = false := beq_eq_false_iff_ne.mpr c71
         have c71b1 : (((rd_T67 l0_1 x57_2).f0) != ji36) = true := bne_iff_ne.mpr c71
         have H' := Aside0.mk H
         clear H
         have hnb81 := NB654_646.out
         have hnc81 := NB646_654.out
         have hnb82 := NB654_647.out
         have hnc82 := NB647_654.out
         have hnb83 := NB654_651.out
         have hnc83 := NB651_654.out
         have hnb84 := NB654_652.out
         have hnc84 := NB652_654.out
         have hcz85_0 : w54.cell? ⟨gb654, 0, none⟩ = some (.int .i64 0) := (blk_cell BK654.out 0).trans rfl
         have hcz85_1 : w54.cell? ⟨gb654, 1, none⟩ = some (.int .i64 0) := (blk_cell BK654.out 1).trans rfl
         have hfz85_0 := blk_frozen BK654.out 0
         have hfz85_1 := blk_frozen BK654.out 1
         have hnb86 := NB651_646.out
         have hnc86 := NB646_651.out
         have hnb87 := NB651_647.out
         have hnc87 := NB647_651.out
         have hnb88 := NB651_652.out
         have hnc88 := NB652_651.out
         have hcz89_0 : w54.cell? ⟨gb651, 0, none⟩ = some (.int .i64 ji36) := (blk_cell BK651.out 0).trans rfl
         have hcz89_1 : w54.cell? ⟨gb651, 1, none⟩ = some (.int .i64 ji37) := (blk_cell BK651.out 1).trans rfl
         have hfz89_0 := blk_frozen BK651.out 0
         have hfz89_1 := blk_frozen BK651.out 1
         go_wp2
         go_meet
         case rel => exact ⟨_, (false), eqA, H', ⟨by have := HJ3.out; have := HK2.out; first | omega | exact Nat.le_refl _⟩, ⟨by (with_reducible repeat (first | apply Kd.R_alloc | apply Kd.R_drewN | apply Kd.R_drew)); exact Kd.R_mono (Kd.R_far (p := ⟨gb654, 1, none⟩) (Kd.R_far (p := ⟨gb654, 0, none⟩) (Kd.R_mono HO_653001.out (fun k_ hk => (⟨hk, hk.2⟩ : _ ∧ k_ ≠ gb654))) (fun _ hk => hk.2) (.int .i64 ((rd_T67 l0_1 x57_2).f0))) (fun _ hk => hk.2) (.int .i64 ((rd_T67 l0_1 x57_2).f1))) (fun _ hk => ⟨hk.1.1, hk.1.2⟩)⟩, ⟨by (with_reducible repeat (first | refine blk_drewN ?_ _ | refine blk_drew ?_ | refine blk_alloc ?_ _)); refine blk_far ?_ NB646_654.out _; (with_reducible repeat (first | refine blk_drewN ?_ _ | refine blk_drew ?_ | refine blk_alloc ?_ _)); refine blk_far ?_ NB646_654.out _; exact Bz BK646⟩, ⟨by (with_reducible repeat (first | refine blk_drewN ?_ _ | refine blk_drew ?_ | refine blk_alloc ?_ _)); refine blk_far ?_ NB647_654.out _; (with_reducible repeat (first | refine blk_drewN ?_ _ | refine blk_drew ?_ | refine blk_alloc ?_ _)); refine blk_far ?_ NB647_654.out _; exact Bz BK647⟩, ⟨by (with_reducible repeat (first | refine blk_drewN ?_ _ | refine blk_drew ?_ | refine blk_alloc ?_ _)); refine blk_far ?_ NB651_654.out _; (with_reducible repeat (first | refine blk_drewN ?_ _ | refine blk_drew ?_ | refine blk_alloc ?_ _)); refine blk_far ?_ NB651_654.out _; exact Bz BK651⟩, ⟨by (with_reducible repeat (first | refine blk_drewN ?_ _ | refine blk_drew ?_ | refine blk_alloc ?_ _)); refine blk_far ?_ NB652_654.out _; (with_reducible repeat (first | refine blk_drewN ?_ _ | refine blk_drew ?_ | refine blk_alloc ?_ _)); refine blk_far ?_ NB652_654.out _; exact Bz BK652⟩, ⟨by (with_reducible repeat (first | refine blk_drewN ?_ _ | refine blk_drew ?_ | refine blk_alloc ?_ _)); refine blk_put (cs := #[.int .i64 ((rd_T67 l0_1 x57_2).f0), .int .i64 0]) ?_ 1 _ rfl; (with_reducible repeat (first | refine blk_drewN ?_ _ | refine blk_drew ?_ | refine blk_alloc ?_ _)); refine blk_put (cs := #[.int .i64 0, .int .i64 0]) ?_ 0 _ rfl; exact Bz BK654⟩, ⟨by first | exact Lz HB | repeat (first | (with_reducible first | exact HB.out | apply below_alloc | apply pw_below_drewN | apply below_drew1 | refine below_set ?_ GE646.out | refine below_set ?_ GE647.out | refine below_set ?_ GE651.out | refine below_set ?_ GE652.out | refine below_set ?_ GE654.out) | exact HB.out)⟩⟩
        case rest =>
         clear HC53
         try clear c8
         try clear c10
         try clear c12
         try clear c13
         try clear c13b0
         try clear c13b1
         try clear c33
         try clear c50
         try clear c50b0
         try clear c51
         try clear c51b0
         try clear c52
         try clear c52b0
         try clear c60
         try clear c61
         try clear c61b0
         try clear c71
         try clear c71b0
         try clear c71b1
         try clear p653
         try clear q653
         obtain ⟨kq, x83_52, rfl, HA, HJ52, HO_653001, BK646, BK647, BK651, BK652, BK654, HB⟩ := hcut
         cases kq with
         | zero => exact absurd HA.out (by simp [spec_AddEdge.j2])
         | succ kj52 =>
          have H := HA.out
          clear HA
          simp only [spec_AddEdge.j2] at H
          by_cases c90 : x83_52 = true
          ·subst c90
           have H1 : (if x653001_2.length < 8796093022208 then ((some (x653001_2 ++ [(⟨ji36, ji37⟩ : S67)] : List (S67))).bind fun y655 => (if y655.length < 8796093022208 then (spec_AddEdge.l0 kj52 true l0_1 (l0_1.length : Int) (wrap64 (x57_2 + 1)) ji36 ji37 a0_0 (y655 ++ [(⟨((rd_T67 l0_1 x57_2).f0), ((rd_T67 l0_1 x57_2).f1)⟩ : S67)])) else (none))) else (none)) = some (r1, r2, r3) := by rw [if_pos rfl] at H; exact H
           clear H
           have H := H1
           clear H1
           by_cases c91 : x653001_2.length < 8796093022208
           ·rw [if_pos c91] at H
            have LMc91 := Aside0.mk c91
            clear c91
            obtain ⟨y655, hy655⟩ : ∃ y_ : List (S67), y_ = (x653001_2 ++ [(⟨ji36, ji37⟩ : S67)]) := ⟨_, rfl⟩
            replace H : (if y655.length < 8796093022208 then (spec_AddEdge.l0 kj52 true l0_1 (l0_1.length : Int) (wrap64 (x57_2 + 1)) ji36 ji37 a0_0 (y655 ++ [(⟨((rd_T67 l0_1 x57_2).f0), ((rd_T67 l0_1 x57_2).f1)⟩ : S67)])) else (none)) = some (r1, r2, r3) := by first | (rw [hy655]; with_reducible exact H) | (have H2_ := (Option.bind_some _ _).symm.trans H; rw [hy655]; with_reducible exact H2_) | (have H2_ := (Option.bind_some _ _).symm.trans H; with_reducible exact H2_) | with_reducible exact H | (rw [hy655]; exact H) | exact H
            have Ny655 := Aside0.mk hy655
            clear hy655
            by_cases c92 : y655.length < 8796093022208
            ·rw [if_pos c92] at H
             have LMc92 := Aside0.mk c92
             clear c92
             obtain ⟨y658, hy658⟩ : ∃ y_ : List (S67), y_ = (y655 ++ [(⟨((rd_T67 l0_1 x57_2).f0), ((rd_T67 l0_1 x57_2).f1)⟩ : S67)]) := ⟨_, rfl⟩
             replace H : (spec_AddEdge.l0 kj52 true l0_1 (l0_1.length : Int) (wrap64 (x57_2 + 1)) ji36 ji37 a0_0 y658) = some (r1, r2, r3) := by first | (rw [hy658]; with_reducible exact H) | (have H2_ := (Option.bind_some _ _).symm.trans H; rw [hy658]; with_reducible exact H2_) | (have H2_ := (Option.bind_some _ _).symm.trans H; with_reducible exact H2_) | with_reducible exact H | (rw [hy658]; exact H) | exact H
             have Ny658 := Aside0.mk hy658
             clear hy658
             have H' := Aside0.mk H
             clear H
             have hnb93 := NB652_646.out
             have hnc93 := NB646_652.out
             have hnb94 := NB652_647.out
             have hnc94 := NB647_652.out
             have hnb95 := NB652_651.out
             have hnc95 := NB651_652.out
             have hnb96 := NB652_654.out
             have hnc96 := NB654_652.out
             have hcz97_0 : wc.cell? ⟨gb652, 0, none⟩ = some (.int .i64 a0_0) := (blk_cell BK652.out 0).trans rfl
             have hcz97_1 : wc.cell? ⟨gb652, 1, none⟩ = some (u653001) := (blk_cell BK652.out 1).trans rfl
             have hfz97_0 := blk_frozen BK652.out 0
             have hfz97_1 := blk_frozen BK652.out 1
             have hnb98 := NB651_646.out
             have hnc98 := NB646_651.out
             have hnb99 := NB651_647.out
             have hnc99 := NB647_651.out
             have hnb100 := NB651_654.out
             have hnc100 := NB654_651.out
             have hcz101_0 : wc.cell? ⟨gb651, 0, none⟩ = some (.int .i64 ji36) := (blk_cell BK651.out 0).trans rfl
             have hcz101_1 : wc.cell? ⟨gb651, 1, none⟩ = some (.int .i64 ji37) := (blk_cell BK651.out 1).trans rfl
             have hfz101_0 := blk_frozen BK651.out 0
             have hfz101_1 := blk_frozen BK651.out 1
             go_wp2_with (first | ((with_reducible refine gate_builtin (b := .append) (xs := #[.tmp 85, .tmp 87]) rfl ?_); (try (refine gate_guard (by rfl) ?_; dsimp only)); at_builtin; refine Kd.R_append k67 (w0 := w) w.heap.size rfl (.tmp 85) (.tmp 87) 29 67 (.agg #[(.int .i64 0), (.int .i64 0)]) 16 rfl Try.underlying29 info67 rfl (by decide) (by omega) u653001 x653001_2 (⟨ji36, ji37⟩ : S67) [.int .i64 ji36, .int .i64 ji37] (fun k_ => k_ ≠ gb651 ∧ k_ ≠ gb654) (fun _ => False) rfl rfl ?aP (fun _ hk => hk.elim) ?aF ?aO ?aB ?aS ?aL ?_; (case aP => exact k67_mkM _ _ _ (⟨ji36, ji37⟩ : S67)); (case aB => exact (by first | exact Lz HB | repeat (first | (with_reducible first | exact HB.out | apply below_alloc | apply pw_below_drewN | apply below_drew1 | refine below_set ?_ GE646.out | refine below_set ?_ GE647.out | refine below_set ?_ GE651.out | refine below_set ?_ GE652.out | refine below_set ?_ GE654.out) | exact HB.out))); (case aF => exact (fun k_ hk => ⟨Kd.freshB (g := gb651) (o := .cells #[.int .i64 ji36, .int .i64 ji37] 67 (0, 0)) (Bz BK651) k_ hk, Kd.freshB (g := gb654) (o := .cells #[.int .i64 ((rd_T67 l0_1 x57_2).f0), .int .i64 ((rd_T67 l0_1 x57_2).f1)] 67 (0, 0)) (Bz BK654) k_ hk⟩)); (case aO => exact (Rz HO_653001)); (case aS => exact (below_size (by first | exact Lz HB | repeat (first | (with_reducible first | exact HB.out | apply below_alloc | apply pw_below_drewN | apply below_drew1 | refine below_set ?_ GE646.out | refine below_set ?_ GE647.out | refine below_set ?_ GE651.out | refine below_set ?_ GE652.out | refine below_set ?_ GE654.out) | exact HB.out)))); (case aL => have := LMc91.out; omega); intro v656 w102 ho hb hg hat; rw [← Ny655.out] at ho; replace BK646 := Aside0.mk (blk_grown (g := gb646) (o := .cells #[.int .i64 a0_0, .slice (some ad653) l0_1.length c0_1] 31 (0, 0)) (Bz BK646) hg (Kd.R_ne HO_653001.out BK646.out (by decide))); replace BK647 := Aside0.mk (blk_grown (g := gb647) (o := .cells #[.int .i64 0, .slice none 0 0] 31 (0, 0)) (Bz BK647) hg (Kd.R_ne HO_653001.out BK647.out (by decide))); replace BK651 := Aside0.mk (blk_grown (g := gb651) (o := .cells #[.int .i64 ji36, .int .i64 ji37] 67 (0, 0)) (Bz BK651) hg (Kd.R_away HO_653001.out (fun _ hk => hk.1))); replace BK652 := Aside0.mk (blk_grown (g := gb652) (o := .cells #[.int .i64 a0_0, u653001] 31 (0, 0)) (Bz BK652) hg (Kd.R_ne HO_653001.out BK652.out (by decide))); replace BK654 := Aside0.mk (blk_grown (g := gb654) (o := .cells #[.int .i64 ((rd_T67 l0_1 x57_2).f0), .int .i64 ((rd_T67 l0_1 x57_2).f1)] 67 (0, 0)) (Bz BK654) hg (Kd.R_away HO_653001.out (fun _ hk => hk.2))); replace HB := Aside0.mk (hb); have HO657 := Aside0.mk (ho); clear HO_653001; clear ho hb hg hat; obtain ⟨Ao103, co103, eo103⟩ := Kd.R_slice HO657.out; subst eo103; have hcz104_0 : w102.cell? ⟨gb652, 0, none⟩ = some (.int .i64 a0_0) := (blk_cell BK652.out 0).trans rfl; have hcz104_1 : w102.cell? ⟨gb652, 1, none⟩ = some (u653001) := (blk_cell BK652.out 1).trans rfl; have hfz104_0 := blk_frozen BK652.out 0; have hfz104_1 := blk_frozen BK652.out 1; have hnb105 := NB654_646.out; have hnc105 := NB646_654.out; have hnb106 := NB654_647.out; have hnc106 := NB647_654.out; have hcz107_0 : w102.cell? ⟨gb654, 0, none⟩ = some (.int .i64 ((rd_T67 l0_1 x57_2).f0)) := (blk_cell BK654.out 0).trans rfl; have hcz107_1 : w102.cell? ⟨gb654, 1, none⟩ = some (.int .i64 ((rd_T67 l0_1 x57_2).f1)) := (blk_cell BK654.out 1).trans rfl; have hfz107_0 := blk_frozen BK654.out 0; have hfz107_1 := blk_frozen BK654.out 1) | ((with_reducible refine gate_builtin (b := .append) (xs := #[.tmp 91, .tmp 93]) rfl ?_); (try (refine gate_guard (by rfl) ?_; dsimp only)); at_builtin; refine Kd.R_append k67 (w0 := w) w.heap.size rfl (.tmp 91) (.tmp 93) 29 67 (.agg #[(.int .i64 0), (.int .i64 0)]) 16 rfl Try.underlying29 info67 rfl (by decide) (by omega) (.slice Ao103 y655.length co103) y655 (⟨((rd_T67 l0_1 x57_2).f0), ((rd_T67 l0_1 x57_2).f1)⟩ : S67) [.int .i64 ((rd_T67 l0_1 x57_2).f0), .int .i64 ((rd_T67 l0_1 x57_2).f1)] (fun k_ => k_ ≠ gb651 ∧ k_ ≠ gb654) (fun _ => False) rfl (by first | (go_simp; done) | (go_simp; rfl)) ?aP (fun _ hk => hk.elim) ?aF ?aO ?aB ?aS ?aL ?_; (case aP => exact k67_mkM _ _ _ (⟨((rd_T67 l0_1 x57_2).f0), ((rd_T67 l0_1 x57_2).f1)⟩ : S67)); (case aB => exact (by first | exact Lz HB | repeat (first | (with_reducible first | exact HB.out | apply below_alloc | apply pw_below_drewN | apply below_drew1 | refine below_set ?_ GE646.out | refine below_set ?_ GE647.out | refine below_set ?_ GE651.out | refine below_set ?_ GE652.out | refine below_set ?_ GE654.out) | exact HB.out))); (case aF => exact (fun k_ hk => ⟨Kd.freshB (g := gb651) (o := .cells #[.int .i64 ji36, .int .i64 ji37] 67 (0, 0)) (by (with_reducible repeat (first | refine blk_drewN ?_ _ | refine blk_drew ?_ | refine blk_alloc ?_ _)); refine blk_far ?_ NB651_652.out _; exact Bz BK651) k_ hk, Kd.freshB (g := gb654) (o := .cells #[.int .i64 ((rd_T67 l0_1 x57_2).f0), .int .i64 ((rd_T67 l0_1 x57_2).f1)] 67 (0, 0)) (by (with_reducible repeat (first | refine blk_drewN ?_ _ | refine blk_drew ?_ | refine blk_alloc ?_ _)); refine blk_far ?_ NB654_652.out _; exact Bz BK654) k_ hk⟩)); (case aO => exact (by (with_reducible repeat (first | apply Kd.R_alloc | apply Kd.R_drewN | apply Kd.R_drew)); exact Kd.R_mono (Kd.R_far (p := ⟨gb652, 1, none⟩) (Kd.R_types HO657.out BK652.out (by decide)) (fun _ hk => hk.2) (.slice Ao103 y655.length co103)) (fun _ hk => ⟨hk.1.1, hk.1.2⟩))); (case aS => exact (below_size (by first | exact Lz HB | repeat (first | (with_reducible first | exact HB.out | apply below_alloc | apply pw_below_drewN | apply below_drew1 | refine below_set ?_ GE646.out | refine below_set ?_ GE647.out | refine below_set ?_ GE651.out | refine below_set ?_ GE652.out | refine below_set ?_ GE654.out) | exact HB.out)))); (case aL => have := LMc92.out; omega); intro v659 w108 ho hb hg hat; rw [← Ny658.out] at ho; replace BK646 := Aside0.mk (blk_grown (g := gb646) (o := .cells #[.int .i64 a0_0, .slice (some ad653) l0_1.length c0_1] 31 (0, 0)) (by (with_reducible repeat (first | refine blk_drewN ?_ _ | refine blk_drew ?_ | refine blk_alloc ?_ _)); refine blk_far ?_ NB646_652.out _; exact Bz BK646) hg (Kd.R_ne HO657.out BK646.out (by decide))); replace BK647 := Aside0.mk (blk_grown (g := gb647) (o := .cells #[.int .i64 0, .slice none 0 0] 31 (0, 0)) (by (with_reducible repeat (first | refine blk_drewN ?_ _ | refine blk_drew ?_ | refine blk_alloc ?_ _)); refine blk_far ?_ NB647_652.out _; exact Bz BK647) hg (Kd.R_ne HO657.out BK647.out (by decide))); replace BK651 := Aside0.mk (blk_grown (g := gb651) (o := .cells #[.int .i64 ji36, .int .i64 ji37] 67 (0, 0)) (by (with_reducible repeat (first | refine blk_drewN ?_ _ | refine blk_drew ?_ | refine blk_alloc ?_ _)); refine blk_far ?_ NB651_652.out _; exact Bz BK651) hg (Kd.R_away HO657.out (fun _ hk => hk.1))); replace BK652 := Aside0.mk (blk_grown (g := gb652) (o := .cells #[.int .i64 a0_0, .slice Ao103 y655.length co103] 31 (0, 0)) (by (with_reducible repeat (first | refine blk_drewN ?_ _ | refine blk_drew ?_ | refine blk_alloc ?_ _)); refine blk_put (cs := #[.int .i64 a0_0, u653001]) ?_ 1 _ rfl; exact Bz BK652) hg (Kd.R_ne HO657.out BK652.out (by decide))); replace BK654 := Aside0.mk (blk_grown (g := gb654) (o := .cells #[.int .i64 ((rd_T67 l0_1 x57_2).f0), .int .i64 ((rd_T67 l0_1 x57_2).f1)] 67 (0, 0)) (by (with_reducible repeat (first | refine blk_drewN ?_ _ | refine blk_drew ?_ | refine blk_alloc ?_ _)); refine blk_far ?_ NB654_652.out _; exact Bz BK654) hg (Kd.R_away HO657.out (fun _ hk => hk.2))); replace HB := Aside0.mk (hb); have HO660 := Aside0.mk (ho); clear HO657; clear ho hb hg hat; obtain ⟨Ao109, co109, eo109⟩ := Kd.R_slice HO660.out; subst eo109; have hcz110_0 : w108.cell? ⟨gb652, 0, none⟩ = some (.int .i64 a0_0) := (blk_cell BK652.out 0).trans rfl; have hcz110_1 : w108.cell? ⟨gb652, 1, none⟩ = some (.slice Ao103 y655.length co103) := (blk_cell BK652.out 1).trans rfl; have hfz110_0 := blk_frozen BK652.out 0; have hfz110_1 := blk_frozen BK652.out 1))
             go_roundg kj52
             case measure => have := HJ3.out; have := HK2.out; have := HJ52.out; omega
             case rel => exact ⟨(true), (wrap64 (x57_2 + 1)), (y658), (.slice Ao109 y658.length co109), eqA, eqA, H', ⟨by have := HJ3.out; have := HK2.out; have := HJ52.out; omega⟩, ⟨by (with_reducible repeat (first | apply Kd.R_alloc | apply Kd.R_drewN | apply Kd.R_drew)); exact Kd.R_mono (Kd.R_far (p := ⟨gb652, 1, none⟩) (Kd.R_types HO660.out BK652.out (by decide)) (fun _ hk => hk.2) (.slice Ao109 y658.length co109)) (fun _ hk => hk.1.1)⟩, ⟨by (with_reducible repeat (first | refine blk_drewN ?_ _ | refine blk_drew ?_ | refine blk_alloc ?_ _)); refine blk_far ?_ NB646_652.out _; exact Bz BK646⟩, ⟨by (with_reducible repeat (first | refine blk_drewN ?_ _ | refine blk_drew ?_ | refine blk_alloc ?_ _)); refine blk_far ?_ NB647_652.out _; exact Bz BK647⟩, ⟨by (with_reducible repeat (first | refine blk_drewN ?_ _ | refine blk_drew ?_ | refine blk_alloc ?_ _)); refine blk_far ?_ NB651_652.out _; exact Bz BK651⟩, ⟨by (with_reducible repeat (first | refine blk_drewN ?_ _ | refine blk_drew ?_ | refine blk_alloc ?_ _)); refine blk_put (cs := #[.int .i64 a0_0, .slice Ao103 y655.length co103]) ?_ 1 _ rfl; exact Bz BK652⟩, ⟨by first | exact Lz HB | repeat (first | (with_reducible first | exact HB.out | apply below_alloc | apply pw_below_drewN | apply below_drew1 | refine below_set ?_ GE646.out | refine below_set ?_ GE647.out | refine below_set ?_ GE651.out | refine below_set ?_ GE652.out | refine below_set ?_ GE654.out) | exact HB.out)⟩⟩
            rw [if_neg c92] at H
            exact absurd H (by simp)
           rw [if_neg c91] at H
           exact absurd H (by simp)
          replace c90 := Bool.eq_false_iff.mpr c90
          subst c90
          have H1 : (if x653001_2.length < 8796093022208 then (spec_AddEdge.l0 kj52 x10_2 l0_1 (l0_1.length : Int) (wrap64 (x57_2 + 1)) ji36 ji37 a0_0 (x653001_2 ++ [(⟨((rd_T67 l0_1 x57_2).f0), ((rd_T67 l0_1 x57_2).f1)⟩ : S67)])) else (none)) = some (r1, r2, r3) := by rw [if_neg (show ¬ (false = true) by decide)] at H; exact H
          clear H
          have H := H1
          clear H1
          by_cases c111 : x653001_2.length < 8796093022208
          ·rw [if_pos c111] at H
           have LMc111 := Aside0.mk c111
           clear c111
           obtain ⟨y661, hy661⟩ : ∃ y_ : List (S67), y_ = (x653001_2 ++ [(⟨((rd_T67 l0_1 x57_2).f0), ((rd_T67 l0_1 x57_2).f1)⟩ : S67)]) := ⟨_, rfl⟩
           replace H : (spec_AddEdge.l0 kj52 x10_2 l0_1 (l0_1.length : Int) (wrap64 (x57_2 + 1)) ji36 ji37 a0_0 y661) = some (r1, r2, r3) := by first | (rw [hy661]; with_reducible exact H) | (have H2_ := (Option.bind_some _ _).symm.trans H; rw [hy661]; with_reducible exact H2_) | (have H2_ := (Option.bind_some _ _).symm.trans H; with_reducible exact H2_) | with_reducible exact H | (rw [hy661]; exact H) | exact H
           have Ny661 := Aside0.mk hy661
           clear hy661
           have H' := Aside0.mk H
           clear H
           have hnb112 := NB652_646.out
           have hnc112 := NB646_652.out
           have hnb113 := NB652_647.out
           have hnc113 := NB647_652.out
           have hnb114 := NB652_651.out
           have hnc114 := NB651_652.out
           have hnb115 := NB652_654.out
           have hnc115 := NB654_652.out
           have hcz116_0 : wc.cell? ⟨gb652, 0, none⟩ = some (.int .i64 a0_0) := (blk_cell BK652.out 0).trans rfl
           have hcz116_1 : wc.cell? ⟨gb652, 1, none⟩ = some (u653001) := (blk_cell BK652.out 1).trans rfl
           have hfz116_0 := blk_frozen BK652.out 0
           have hfz116_1 := blk_frozen BK652.out 1
           have hnb117 := NB654_646.out
           have hnc117 := NB646_654.out
           have hnb118 := NB654_647.out
           have hnc118 := NB647_654.out
           have hnb119 := NB654_651.out
           have hnc119 := NB651_654.out
           have hcz120_0 : wc.cell? ⟨gb654, 0, none⟩ = some (.int .i64 ((rd_T67 l0_1 x57_2).f0)) := (blk_cell BK654.out 0).trans rfl
           have hcz120_1 : wc.cell? ⟨gb654, 1, none⟩ = some (.int .i64 ((rd_T67 l0_1 x57_2).f1)) := (blk_cell BK654.out 1).trans rfl
           have hfz120_0 := blk_frozen BK654.out 0
           have hfz120_1 := blk_frozen BK654.out 1
           go_wp2_with (first | ((with_reducible refine gate_builtin (b := .append) (xs := #[.tmp 91, .tmp 93]) rfl ?_); (try (refine gate_guard (by rfl) ?_; dsimp only)); at_builtin; refine Kd.R_append k67 (w0 := w) w.heap.size rfl (.tmp 91) (.tmp 93) 29 67 (.agg #[(.int .i64 0), (.int .i64 0)]) 16 rfl Try.underlying29 info67 rfl (by decide) (by omega) u653001 x653001_2 (⟨((rd_T67 l0_1 x57_2).f0), ((rd_T67 l0_1 x57_2).f1)⟩ : S67) [.int .i64 ((rd_T67 l0_1 x57_2).f0), .int .i64 ((rd_T67 l0_1 x57_2).f1)] (fun k_ => k_ ≠ gb651 ∧ k_ ≠ gb654) (fun _ => False) rfl rfl ?aP (fun _ hk => hk.elim) ?aF ?aO ?aB ?aS ?aL ?_; (case aP => exact k67_mkM _ _ _ (⟨((rd_T67 l0_1 x57_2).f0), ((rd_T67 l0_1 x57_2).f1)⟩ : S67)); (case aB => exact (by first | exact Lz HB | repeat (first | (with_reducible first | exact HB.out | apply below_alloc | apply pw_below_drewN | apply below_drew1 | refine below_set ?_ GE646.out | refine below_set ?_ GE647.out | refine below_set ?_ GE651.out | refine below_set ?_ GE652.out | refine below_set ?_ GE654.out) | exact HB.out))); (case aF => exact (fun k_ hk => ⟨Kd.freshB (g := gb651) (o := .cells #[.int .i64 ji36, .int .i64 ji37] 67 (0, 0)) (Bz BK651) k_ hk, Kd.freshB (g := gb654) (o := .cells #[.int .i64 ((rd_T67 l0_1 x57_2).f0), .int .i64 ((rd_T67 l0_1 x57_2).f1)] 67 (0, 0)) (Bz BK654) k_ hk⟩)); (case aO => exact (Rz HO_653001)); (case aS => exact (below_size (by first | exact Lz HB | repeat (first | (with_reducible first | exact HB.out | apply below_alloc | apply pw_below_drewN | apply below_drew1 | refine below_set ?_ GE646.out | refine below_set ?_ GE647.out | refine below_set ?_ GE651.out | refine below_set ?_ GE652.out | refine below_set ?_ GE654.out) | exact HB.out)))); (case aL => have := LMc111.out; omega); intro v662 w121 ho hb hg hat; rw [← Ny661.out] at ho; replace BK646 := Aside0.mk (blk_grown (g := gb646) (o := .cells #[.int .i64 a0_0, .slice (some ad653) l0_1.length c0_1] 31 (0, 0)) (Bz BK646) hg (Kd.R_ne HO_653001.out BK646.out (by decide))); replace BK647 := Aside0.mk (blk_grown (g := gb647) (o := .cells #[.int .i64 0, .slice none 0 0] 31 (0, 0)) (Bz BK647) hg (Kd.R_ne HO_653001.out BK647.out (by decide))); replace BK651 := Aside0.mk (blk_grown (g := gb651) (o := .cells #[.int .i64 ji36, .int .i64 ji37] 67 (0, 0)) (Bz BK651) hg (Kd.R_away HO_653001.out (fun _ hk => hk.1))); replace BK652 := Aside0.mk (blk_grown (g := gb652) (o := .cells #[.int .i64 a0_0, u653001] 31 (0, 0)) (Bz BK652) hg (Kd.R_ne HO_653001.out BK652.out (by decide))); replace BK654 := Aside0.mk (blk_grown (g := gb654) (o := .cells #[.int .i64 ((rd_T67 l0_1 x57_2).f0), .int .i64 ((rd_T67 l0_1 x57_2).f1)] 67 (0, 0)) (Bz BK654) hg (Kd.R_away HO_653001.out (fun _ hk => hk.2))); replace HB := Aside0.mk (hb); have HO663 := Aside0.mk (ho); clear HO_653001; clear ho hb hg hat; obtain ⟨Ao122, co122, eo122⟩ := Kd.R_slice HO663.out; subst eo122; have hcz123_0 : w121.cell? ⟨gb652, 0, none⟩ = some (.int .i64 a0_0) := (blk_cell BK652.out 0).trans rfl; have hcz123_1 : w121.cell? ⟨gb652, 1, none⟩ = some (u653001) := (blk_cell BK652.out 1).trans rfl; have hfz123_0 := blk_frozen BK652.out 0; have hfz123_1 := blk_frozen BK652.out 1))
           go_roundg kj52
           case measure => have := HJ3.out; have := HK2.out; have := HJ52.out; omega
           case rel => exact ⟨(x10_2), (wrap64 (x57_2 + 1)), (y661), (.slice Ao122 y661.length co122), eqA, eqA, H', ⟨by have := HJ3.out; have := HK2.out; have := HJ52.out; omega⟩, ⟨by (with_reducible repeat (first | apply Kd.R_alloc | apply Kd.R_drewN | apply Kd.R_drew)); exact Kd.R_mono (Kd.R_far (p := ⟨gb652, 1, none⟩) (Kd.R_types HO663.out BK652.out (by decide)) (fun _ hk => hk.2) (.slice Ao122 y661.length co122)) (fun _ hk => hk.1.1)⟩, ⟨by (with_reducible repeat (first | refine blk_drewN ?_ _ | refine blk_drew ?_ | refine blk_alloc ?_ _)); refine blk_far ?_ NB646_652.out _; exact Bz BK646⟩, ⟨by (with_reducible repeat (first | refine blk_drewN ?_ _ | refine blk_drew ?_ | refine blk_alloc ?_ _)); refine blk_far ?_ NB647_652.out _; exact Bz BK647⟩, ⟨by (with_reducible repeat (first | refine blk_drewN ?_ _ | refine blk_drew ?_ | refine blk_alloc ?_ _)); refine blk_far ?_ NB651_652.out _; exact Bz BK651⟩, ⟨by (with_reducible repeat (first | refine blk_drewN ?_ _ | refine blk_drew ?_ | refine blk_alloc ?_ _)); refine blk_put (cs := #[.int .i64 a0_0, u653001]) ?_ 1 _ rfl; exact Bz BK652⟩, ⟨by first | exact Lz HB | repeat (first | (with_reducible first | exact HB.out | apply below_alloc | apply pw_below_drewN | apply below_drew1 | refine below_set ?_ GE646.out | refine below_set ?_ GE647.out | refine below_set ?_ GE651.out | refine below_set ?_ GE652.out | refine below_set ?_ GE654.out) | exact HB.out)⟩⟩
          rw [if_neg c111] at H
          exact absurd H (by simp)
       rw [if_neg c52] at H
       exact absurd H (by simp)
      rw [if_neg c51] at H
      exact absurd H (by simp)
     rw [if_neg c50] at H
     have c50b0 : decide (x57_2 < (l0_1.length : Int)) = false := decide_eq_false c50
     clear c50
     by_cases c124 : x10_2 = true
     ·subst c124
      have H1 : (some (a0_0, x653001_2, true)) = some (r1, r2, r3) := by rw [if_pos rfl] at H; exact H
      clear H
      have H := H1
      clear H1
      simp only [Option.some.injEq, Prod.mk.injEq] at H
      obtain ⟨rfl, rfl, rfl⟩ := H
      have hnb125 := NB652_646.out
      have hnc125 := NB646_652.out
      have hnb126 := NB652_647.out
      have hnc126 := NB647_652.out
      have hnb127 := NB652_651.out
      have hnc127 := NB651_652.out
      have hcz128_0 : wr.cell? ⟨gb652, 0, none⟩ = some (.int .i64 a0_0) := (blk_cell BK652.out 0).trans rfl
      have hcz128_1 : wr.cell? ⟨gb652, 1, none⟩ = some (u653001) := (blk_cell BK652.out 1).trans rfl
      have hfz128_0 := blk_frozen BK652.out 0
      have hfz128_1 := blk_frozen BK652.out 1
      have hnb129 := NB647_646.out
      have hnc129 := NB646_647.out
      have hnb130 := NB647_651.out
      have hnc130 := NB651_647.out
      have hcz131_0 : wr.cell? ⟨gb647, 0, none⟩ = some (.int .i64 0) := (blk_cell BK647.out 0).trans rfl
      have hcz131_1 : wr.cell? ⟨gb647, 1, none⟩ = some (.slice none 0 0) := (blk_cell BK647.out 1).trans rfl
      have hfz131_0 := blk_frozen BK647.out 0
      have hfz131_1 := blk_frozen BK647.out 1
      obtain ⟨Ao132, co132, eo132⟩ := Kd.R_slice HO_653001.out
      subst eo132
      go_wp2
      refine bodyPost_ret (results_ct rfl _ _ gb647 31 #[.int .i64 a0_0, .slice Ao132 x653001_2.length co132] (0, 0) _ rfl (by (with_reducible repeat (first | refine blk_drewN ?_ _ | refine blk_drew ?_ | refine blk_alloc ?_ _)); refine blk_put (cs := #[.int .i64 a0_0, .slice none 0 0]) ?_ 1 _ rfl; (with_reducible repeat (first | refine blk_drewN ?_ _ | refine blk_drew ?_ | refine blk_alloc ?_ _)); refine blk_put (cs := #[.int .i64 0, .slice none 0 0]) ?_ 0 _ rfl; exact Bz BK647) Try.underlying31 rfl (by kernel_rfl)) rfl ?_
      exact ⟨_, by first | rfl | (simp [errW_none, errW_some] <;> rfl) | (simp only [← hji36, ← hji37]; first | rfl | (simp [errW_none, errW_some] <;> rfl)) | (simp [*, errW_none, errW_some] <;> rfl), by (with_reducible repeat (first | apply Kd.R_alloc | apply Kd.R_drewN | apply Kd.R_drew)); exact Kd.R_mono (Kd.R_far (p := ⟨gb647, 1, none⟩) (Kd.R_far (p := ⟨gb647, 0, none⟩) (Kd.R_types HO_653001.out BK647.out (by decide)) (fun _ hk => hk.2) (.int .i64 a0_0)) (fun _ hk => hk.2) (.slice Ao132 x653001_2.length co132)) (fun _ hk => trivial), by first | exact Lz HB | repeat (first | (with_reducible first | exact HB.out | apply below_alloc | apply pw_below_drewN | apply below_drew1 | refine below_set ?_ GE646.out | refine below_set ?_ GE647.out | refine below_set ?_ GE651.out | refine below_set ?_ GE652.out) | exact HB.out)⟩
     replace c124 := Bool.eq_false_iff.mpr c124
     subst c124
     have H1 : (if x653001_2.length < 8796093022208 then (some (a0_0, (x653001_2 ++ [(⟨ji36, ji37⟩ : S67)]), true)) else (none)) = some (r1, r2, r3) := by rw [if_neg (show ¬ (false = true) by decide)] at H; exact H
     clear H
     have H := H1
     clear H1
     by_cases c133 : x653001_2.length < 8796093022208
     ·rw [if_pos c133] at H
      have LMc133 := Aside0.mk c133
      clear c133
      obtain ⟨y664, hy664⟩ : ∃ y_ : List (S67), y_ = (x653001_2 ++ [(⟨ji36, ji37⟩ : S67)]) := ⟨_, rfl⟩
      replace H : (some (a0_0, y664, true)) = some (r1, r2, r3) := by first | (rw [hy664]; with_reducible exact H) | (have H2_ := (Option.bind_some _ _).symm.trans H; rw [hy664]; with_reducible exact H2_) | (have H2_ := (Option.bind_some _ _).symm.trans H; with_reducible exact H2_) | with_reducible exact H | (rw [hy664]; exact H) | exact H
      have Ny664 := Aside0.mk hy664
      clear hy664
      simp only [Option.some.injEq, Prod.mk.injEq] at H
      obtain ⟨rfl, rfl, rfl⟩ := H
      have hnb134 := NB652_646.out
      have hnc134 := NB646_652.out
      have hnb135 := NB652_647.out
      have hnc135 := NB647_652.out
      have hnb136 := NB652_651.out
      have hnc136 := NB651_652.out
      have hcz137_0 : wr.cell? ⟨gb652, 0, none⟩ = some (.int .i64 a0_0) := (blk_cell BK652.out 0).trans rfl
      have hcz137_1 : wr.cell? ⟨gb652, 1, none⟩ = some (u653001) := (blk_cell BK652.out 1).trans rfl
      have hfz137_0 := blk_frozen BK652.out 0
      have hfz137_1 := blk_frozen BK652.out 1
      have hnb138 := NB651_646.out
      have hnc138 := NB646_651.out
      have hnb139 := NB651_647.out
      have hnc139 := NB647_651.out
      have hcz140_0 : wr.cell? ⟨gb651, 0, none⟩ = some (.int .i64 ji36) := (blk_cell BK651.out 0).trans rfl
      have hcz140_1 : wr.cell? ⟨gb651, 1, none⟩ = some (.int .i64 ji37) := (blk_cell BK651.out 1).trans rfl
      have hfz140_0 := blk_frozen BK651.out 0
      have hfz140_1 := blk_frozen BK651.out 1
      go_wp2_with (first | ((with_reducible refine gate_builtin (b := .append) (xs := #[.tmp 100, .tmp 102]) rfl ?_); (try (refine gate_guard (by rfl) ?_; dsimp only)); at_builtin; refine Kd.R_append k67 (w0 := w) w.heap.size rfl (.tmp 100) (.tmp 102) 29 67 (.agg #[(.int .i64 0), (.int .i64 0)]) 16 rfl Try.underlying29 info67 rfl (by decide) (by omega) u653001 x653001_2 (⟨ji36, ji37⟩ : S67) [.int .i64 ji36, .int .i64 ji37] (fun k_ => k_ ≠ gb651) (fun _ => False) rfl rfl ?aP (fun _ hk => hk.elim) ?aF ?aO ?aB ?aS ?aL ?_; (case aP => exact k67_mkM _ _ _ (⟨ji36, ji37⟩ : S67)); (case aB => exact (by first | exact Lz HB | repeat (first | (with_reducible first | exact HB.out | apply below_alloc | apply pw_below_drewN | apply below_drew1 | refine below_set ?_ GE646.out | refine below_set ?_ GE647.out | refine below_set ?_ GE651.out | refine below_set ?_ GE652.out) | exact HB.out))); (case aF => exact (fun k_ hk => Kd.freshB (g := gb651) (o := .cells #[.int .i64 ji36, .int .i64 ji37] 67 (0, 0)) (Bz BK651) k_ hk)); (case aO => exact (Rz HO_653001)); (case aS => exact (below_size (by first | exact Lz HB | repeat (first | (with_reducible first | exact HB.out | apply below_alloc | apply pw_below_drewN | apply below_drew1 | refine below_set ?_ GE646.out | refine below_set ?_ GE647.out | refine below_set ?_ GE651.out | refine below_set ?_ GE652.out) | exact HB.out)))); (case aL => have := LMc133.out; omega); intro v665 w141 ho hb hg hat; rw [← Ny664.out] at ho; replace BK646 := Aside0.mk (blk_grown (g := gb646) (o := .cells #[.int .i64 a0_0, .slice A0_1 l0_1.length c0_1] 31 (0, 0)) (Bz BK646) hg (Kd.R_ne HO_653001.out BK646.out (by decide))); replace BK647 := Aside0.mk (blk_grown (g := gb647) (o := .cells #[.int .i64 0, .slice none 0 0] 31 (0, 0)) (Bz BK647) hg (Kd.R_ne HO_653001.out BK647.out (by decide))); replace BK651 := Aside0.mk (blk_grown (g := gb651) (o := .cells #[.int .i64 ji36, .int .i64 ji37] 67 (0, 0)) (Bz BK651) hg (Kd.R_away HO_653001.out (fun _ hk => hk))); replace BK652 := Aside0.mk (blk_grown (g := gb652) (o := .cells #[.int .i64 a0_0, u653001] 31 (0, 0)) (Bz BK652) hg (Kd.R_ne HO_653001.out BK652.out (by decide))); replace HB := Aside0.mk (hb); have HO666 := Aside0.mk (ho); clear HO_653001; clear ho hb hg hat; obtain ⟨Ao142, co142, eo142⟩ := Kd.R_slice HO666.out; subst eo142; have hcz143_0 : w141.cell? ⟨gb652, 0, none⟩ = some (.int .i64 a0_0) := (blk_cell BK652.out 0).trans rfl; have hcz143_1 : w141.cell? ⟨gb652, 1, none⟩ = some (u653001) := (blk_cell BK652.out 1).trans rfl; have hfz143_0 := blk_frozen BK652.out 0; have hfz143_1 := blk_frozen BK652.out 1; have hnb144 := NB647_646.out; have hnc144 := NB646_647.out; have hcz145_0 : w141.cell? ⟨gb647, 0, none⟩ = some (.int .i64 0) := (blk_cell BK647.out 0).trans rfl; have hcz145_1 : w141.cell? ⟨gb647, 1, none⟩ = some (.slice none 0 0) := (blk_cell BK647.out 1).trans rfl; have hfz145_0 := blk_frozen BK647.out 0; have hfz145_1 := blk_frozen BK647.out 1))
      refine bodyPost_ret (results_ct rfl _ _ gb647 31 #[.int .i64 a0_0, .slice Ao142 y664.length co142] (0, 0) _ rfl (by (with_reducible repeat (first | refine blk_drewN ?_ _ | refine blk_drew ?_ | refine blk_alloc ?_ _)); refine blk_put (cs := #[.int .i64 a0_0, .slice none 0 0]) ?_ 1 _ rfl; (with_reducible repeat (first | refine blk_drewN ?_ _ | refine blk_drew ?_ | refine blk_alloc ?_ _)); refine blk_put (cs := #[.int .i64 0, .slice none 0 0]) ?_ 0 _ rfl; (with_reducible repeat (first | refine blk_drewN ?_ _ | refine blk_drew ?_ | refine blk_alloc ?_ _)); refine blk_far ?_ NB647_652.out _; exact Bz BK647) Try.underlying31 rfl (by kernel_rfl)) rfl ?_
      exact ⟨_, by first | rfl | (simp [errW_none, errW_some] <;> rfl) | (simp only [← hji36, ← hji37]; first | rfl | (simp [errW_none, errW_some] <;> rfl)) | (simp [*, errW_none, errW_some] <;> rfl), by (with_reducible repeat (first | apply Kd.R_alloc | apply Kd.R_drewN | apply Kd.R_drew)); exact Kd.R_mono (Kd.R_far (p := ⟨gb647, 1, none⟩) (Kd.R_far (p := ⟨gb647, 0, none⟩) (Kd.R_far (p := ⟨gb652, 1, none⟩) (Kd.R_types (Kd.R_types HO666.out BK652.out (by decide)) BK647.out (by decide)) (fun _ hk => hk.1.2) (.slice Ao142 y664.length co142)) (fun _ hk => hk.2) (.int .i64 a0_0)) (fun _ hk => hk.2) (.slice Ao142 y664.length co142)) (fun _ hk => trivial), by first | exact Lz HB | repeat (first | (with_reducible first | exact HB.out | apply below_alloc | apply pw_below_drewN | apply below_drew1 | refine below_set ?_ GE646.out | refine below_set ?_ GE647.out | refine below_set ?_ GE651.out | refine below_set ?_ GE652.out) | exact HB.out)⟩
     rw [if_neg c133] at H
     exact absurd H (by simp)
end Go.Proofs.Ytbcfccdoffbncaa.P
end
