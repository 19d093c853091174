/- Functions of the program as plain Lean functions and that the machine's calls answer as they do, the words of the print that these use, lemmas and plain proofs of laws. Put together by a program of this work that leaves out what nothing uses; Lean checks it. -/
import Derived.Test.YtplcclifmajcfaaGace029dd32
import Derived.Test.YtplcclifmajcfaaG058d468385
section
namespace Go.Proofs.Ytplcclifmajcfaa.P
open Go.RowKit Go.Proofs.YtplcclifmajcfaaW.PrintWords Go.Proofs.YtplcclifmajcfaaW.PrintLast Go.Proofs.YtplcclifmajcfaaW.PrintMore
attribute [local go_sem] max2_int min2_int max_two min_two max_three min_three max_four min_four
set_option linter.unusedVariables false
set_option linter.unusedSimpArgs false
mutual
def spec_AddEdge.j0 : Nat → Int → Int → Bool → Int → List (S57) → Option (Int × (List (S57)) × Bool)
 | 0, _, _, _, _, _ => none
 | k + 1, x1, x2, x42, x553000, x553001 => if x42 = true then (some (0, ([] : List (S57)), false)) else (spec_AddEdge.l0 k false x553001 (x553001.length : Int) 0 (mn x1 x2) (mx x1 x2) x553000 ([] : List (S57)))
def spec_AddEdge.l0 : Nat → Bool → List (S57) → Int → Int → Int → Int → Int → List (S57) → Option (Int × (List (S57)) × Bool)
 | 0, _, _, _, _, _, _, _, _ => none
 | k + 1, x10, x55, x56, x57, x558000, x558001, x559000, x559001 => if x57 < x56 then (if 0 ≤ x57 then (if x57 < (x55.length : Int) then (if x10 = true then (spec_AddEdge.j2 k x10 x55 x56 x57 false x558000 x558001 x559000 x559001 ((rd_T57 x55 x57).f0) ((rd_T57 x55 x57).f1)) else (if ((rd_T57 x55 x57).f0) > x558000 then (spec_AddEdge.j2 k x10 x55 x56 x57 true x558000 x558001 x559000 x559001 ((rd_T57 x55 x57).f0) ((rd_T57 x55 x57).f1)) else (if ((rd_T57 x55 x57).f0) = x558000 then (spec_AddEdge.j2 k x10 x55 x56 x57 (decide (((rd_T57 x55 x57).f1) > x558001)) x558000 x558001 x559000 x559001 ((rd_T57 x55 x57).f0) ((rd_T57 x55 x57).f1)) else (spec_AddEdge.j2 k x10 x55 x56 x57 false x558000 x558001 x559000 x559001 ((rd_T57 x55 x57).f0) ((rd_T57 x55 x57).f1))))) else (none)) else (none)) else (if x10 = true then (some (x559000, x559001, true)) else (if x559001.length < 8796093022208 then (some (x559000, (x559001 ++ [(⟨x558000, x558001⟩ : S57)]), true)) else (none)))
def spec_AddEdge.j2 : Nat → Bool → List (S57) → Int → Int → Bool → Int → Int → Int → List (S57) → Int → Int → Option (Int × (List (S57)) × Bool)
 | 0, _, _, _, _, _, _, _, _, _, _, _ => none
 | k + 1, x10, x55, x56, x57, x83, x558000, x558001, x559000, x559001, x561000, x561001 => if x83 = true then (if x559001.length < 8796093022208 then ((some (x559001 ++ [(⟨x558000, x558001⟩ : S57)] : List (S57))).bind fun y561 => (if y561.length < 8796093022208 then (spec_AddEdge.l0 k true x55 x56 (wrap64 (x57 + 1)) x558000 x558001 x559000 (y561 ++ [(⟨x561000, x561001⟩ : S57)])) else (none))) else (none)) else (if x559001.length < 8796093022208 then (spec_AddEdge.l0 k x10 x55 x56 (wrap64 (x57 + 1)) x558000 x558001 x559000 (x559001 ++ [(⟨x561000, x561001⟩ : S57)])) else (none))
end
def spec_AddEdge.f (k : Nat) (a0_0 : Int) (l0_1 : List (S57)) (a1 : Int) (a2 : Int) : Option (Int × (List (S57)) × Bool) := (spec_GraphOk.f k a0_0 l0_1).bind fun t554 => (if t554 = true then ((spec_l01In.f a1 0 (wrap64 (a0_0 - 1))).bind fun t555 => (if t555 = true then ((spec_l01In.f a2 0 (wrap64 (a0_0 - 1))).bind fun t556 => (if t556 = true then (if a1 = a2 then (spec_AddEdge.j0 k a1 a2 true a0_0 l0_1) else (spec_AddEdge.j0 k a1 a2 ((l0_1.length : Int) == 12) a0_0 l0_1)) else (spec_AddEdge.j0 k a1 a2 true a0_0 l0_1))) else (spec_AddEdge.j0 k a1 a2 true a0_0 l0_1))) else (spec_AddEdge.j0 k a1 a2 true a0_0 l0_1))
set_option maxHeartbeats 8000000 in
set_option maxRecDepth 100000 in
theorem spec_AddEdge.calls (k : Nat) (a0_0 : Int) (A0_1 : Option Addr) (c0_1 : Nat) (l0_1 : List (S57)) (a1 : Int) (a2 : Int) (r1 : Int) (r2 : List (S57)) (r3 : Bool) (w : World) (hr0_1 : Kd.C k57 w A0_1 l0_1.length l0_1) (hc0_1 : l0_1.length ≤ c0_1) (h : spec_AddEdge.f k a0_0 l0_1 a1 a2 = some (r1, r2, r3)) :
  Calls Try.prog 94 #[.agg #[.int .i64 a0_0, .slice A0_1 l0_1.length c0_1], .int .i64 a1, .int .i64 a2] w fun e w' => ∃ v1_ : Value, e = .returned (.tuple #[.agg #[.int .i64 r1, v1_], .bool r3]) ∧ Kd.R k57 57 w' w.heap.size (fun _ => True) v1_ r2 ∧ Below w.heap.size w w' := by
 have hu30 := Try.underlying30
 have hu57 := Try.underlying57
 have HR0_1 := Aside0.mk hr0_1
 have HC0_1 := Aside0.mk hc0_1
 clear hr0_1 hc0_1
 have HB := Aside0.mk (Below.refl w.heap.size w)
 have H : ((spec_GraphOk.f k a0_0 l0_1).bind fun t554 => (if t554 = true then ((spec_l01In.f a1 0 (wrap64 (a0_0 - 1))).bind fun t555 => (if t555 = true then ((spec_l01In.f a2 0 (wrap64 (a0_0 - 1))).bind fun t556 => (if t556 = true then (if a1 = a2 then (spec_AddEdge.j0 k a1 a2 true a0_0 l0_1) else (spec_AddEdge.j0 k a1 a2 ((l0_1.length : Int) == 12) a0_0 l0_1)) else (spec_AddEdge.j0 k a1 a2 true a0_0 l0_1))) else (spec_AddEdge.j0 k a1 a2 true a0_0 l0_1))) else (spec_AddEdge.j0 k a1 a2 true a0_0 l0_1))) = some (r1, r2, r3) := h
 clear h
 have HC4 := Aside0.mk H
 clear H
 go_enter Try.func94, Try.ntmps94
 go_upto_region 1 with (first | ((with_reducible refine gate_dst (N := 3) rfl ?_); (try (refine gate_guard (by rfl) ?_; dsimp only)); refine box_event ?hg (N := 3) ?hd (cs := #[.int .i64 a0_0, .slice A0_1 l0_1.length c0_1]) (t := 30) ?hr ?_; (case hd => rfl); (case hg => rfl); (case hr => first | (go_simp; done) | (go_simp; rfl)); intro gb552 hg w5 hbox hb; have BK552 := Aside0.mk (hbox); have GW552 := Aside0.mk ((by rw [hg]; exact (below_size (Lz HB)) : w.heap.size ≤ gb552)); have GE552 := Aside0.mk ((by rw [hg]; exact (below_size (Lz HB)) : w.heap.size ≤ gb552)); replace HB := Aside0.mk (below_step (Lz HB) hb); clear hb hbox hg) | ((with_reducible refine gate_dst (N := 6) rfl ?_); (try (refine gate_guard (by rfl) ?_; dsimp only)); refine box_event ?hg (N := 6) ?hd (cs := #[.int .i64 0, .slice none 0 0]) (t := 30) ?hr ?_; (case hd => rfl); (case hg => rfl); (case hr => first | (go_simp; done) | (go_simp; rfl)); intro gb553 hg w6 hbox hb; have BK553 := Aside0.mk (hbox); have GW553 := Aside0.mk ((by rw [hg]; exact (below_size (by exact Lz1 HB GE552)) : w.heap.size ≤ gb553)); have GE553 := Aside0.mk ((by rw [hg]; exact (below_size (by exact Lz1 HB GE552)) : w.heap.size ≤ gb553)); replace HB := Aside0.mk (below_step (by exact Lz1 HB GE552) hb); have NB552_553 := Aside0.mk ((by rw [hg]; exact Nat.ne_of_lt (blk_lt (g := gb552) (o := .cells #[.int .i64 a0_0, .slice A0_1 l0_1.length c0_1] 30 (0, 0)) (Bz BK552)) : gb552 ≠ gb553)); have NB553_552 := Aside0.mk ((by rw [hg]; exact Nat.ne_of_gt (blk_lt (g := gb552) (o := .cells #[.int .i64 a0_0, .slice A0_1 l0_1.length c0_1] 30 (0, 0)) (Bz BK552)) : gb553 ≠ gb552)); replace BK552 := Aside0.mk (blk_below (g := gb552) (o := .cells #[.int .i64 a0_0, .slice A0_1 l0_1.length c0_1] 30 (0, 0)) (Bz BK552) hb); clear hb hbox hg))
 (try simp only [Act.put, List.setIfInBounds_toArray, List.set_cons_zero, List.set_cons_succ])
 go_cut [42] (fun v42 wc => ∃ (kq : Nat) (x42_3 : Bool), v42 = .bool x42_3 ∧ Aside0 (spec_AddEdge.j0 kq a1 a2 x42_3 a0_0 l0_1 = some (r1, r2, r3)) ∧ Aside0 (kq ≤ k) ∧ Aside0 (wc.heap[gb552]? = some (.cells #[.int .i64 a0_0, (.slice A0_1 l0_1.length c0_1)] 30 (0, 0))) ∧ Aside0 (wc.heap[gb553]? = some (.cells #[.int .i64 0, (.slice none 0 0)] 30 (0, 0))) ∧ Aside0 (Below w.heap.size w wc))
 case first =>
  have H := HC4.out
  clear HC4
  replace H := Option.bind_eq_some_iff.mp H
  obtain ⟨t554, A70, H⟩ := H
  replace H : (if t554 = true then ((spec_l01In.f a1 0 (wrap64 (a0_0 - 1))).bind fun t555 => (if t555 = true then ((spec_l01In.f a2 0 (wrap64 (a0_0 - 1))).bind fun t556 => (if t556 = true then (if a1 = a2 then (spec_AddEdge.j0 k a1 a2 true a0_0 l0_1) else (spec_AddEdge.j0 k a1 a2 ((l0_1.length : Int) == 12) a0_0 l0_1)) else (spec_AddEdge.j0 k a1 a2 true a0_0 l0_1))) else (spec_AddEdge.j0 k a1 a2 true a0_0 l0_1))) else (spec_AddEdge.j0 k a1 a2 true a0_0 l0_1)) = some (r1, r2, r3) := H
  have A7 := Aside0.mk A70
  clear A70
  by_cases c8 : t554 = true
  ·subst c8
   have H1 : ((spec_l01In.f a1 0 (wrap64 (a0_0 - 1))).bind fun t555 => (if t555 = true then ((spec_l01In.f a2 0 (wrap64 (a0_0 - 1))).bind fun t556 => (if t556 = true then (if a1 = a2 then (spec_AddEdge.j0 k a1 a2 true a0_0 l0_1) else (spec_AddEdge.j0 k a1 a2 ((l0_1.length : Int) == 12) a0_0 l0_1)) else (spec_AddEdge.j0 k a1 a2 true a0_0 l0_1))) else (spec_AddEdge.j0 k a1 a2 true a0_0 l0_1))) = some (r1, r2, r3) := by rw [if_pos rfl] at H; exact H
   clear H
   have H := H1
   clear H1
   replace H := Option.bind_eq_some_iff.mp H
   obtain ⟨t555, A90, H⟩ := H
   replace H : (if t555 = true then ((spec_l01In.f a2 0 (wrap64 (a0_0 - 1))).bind fun t556 => (if t556 = true then (if a1 = a2 then (spec_AddEdge.j0 k a1 a2 true a0_0 l0_1) else (spec_AddEdge.j0 k a1 a2 ((l0_1.length : Int) == 12) a0_0 l0_1)) else (spec_AddEdge.j0 k a1 a2 true a0_0 l0_1))) else (spec_AddEdge.j0 k a1 a2 true a0_0 l0_1)) = some (r1, r2, r3) := H
   have A9 := Aside0.mk A90
   clear A90
   by_cases c10 : t555 = true
   ·subst c10
    have H1 : ((spec_l01In.f a2 0 (wrap64 (a0_0 - 1))).bind fun t556 => (if t556 = true then (if a1 = a2 then (spec_AddEdge.j0 k a1 a2 true a0_0 l0_1) else (spec_AddEdge.j0 k a1 a2 ((l0_1.length : Int) == 12) a0_0 l0_1)) else (spec_AddEdge.j0 k a1 a2 true a0_0 l0_1))) = some (r1, r2, r3) := by rw [if_pos rfl] at H; exact H
    clear H
    have H := H1
    clear H1
    replace H := Option.bind_eq_some_iff.mp H
    obtain ⟨t556, A110, H⟩ := H
    replace H : (if t556 = true then (if a1 = a2 then (spec_AddEdge.j0 k a1 a2 true a0_0 l0_1) else (spec_AddEdge.j0 k a1 a2 ((l0_1.length : Int) == 12) a0_0 l0_1)) else (spec_AddEdge.j0 k a1 a2 true a0_0 l0_1)) = some (r1, r2, r3) := H
    have A11 := Aside0.mk A110
    clear A110
    by_cases c12 : t556 = true
    ·subst c12
     have H1 : (if a1 = a2 then (spec_AddEdge.j0 k a1 a2 true a0_0 l0_1) else (spec_AddEdge.j0 k a1 a2 ((l0_1.length : Int) == 12) a0_0 l0_1)) = some (r1, r2, r3) := by rw [if_pos rfl] at H; exact H
     clear H
     have H := H1
     clear H1
     by_cases c13 : a1 = a2
     ·rw [if_pos c13] at H
      have c13b0 : (a1 == a2) = true := beq_iff_eq.mpr c13
      have c13b1 : (a1 != a2) = false := bne_eq_false_iff_eq.mpr c13
      clear c13
      (first | rw [c13b0] | (simp only [i64_w, i32_w]; rw [c13b0]) | skip)
      have H' := Aside0.mk H
      clear H
      have hnb14 := NB552_553.out
      have hnc14 := NB553_552.out
      have hcz15_0 : w6.cell? ⟨gb552, 0, none⟩ = some (.int .i64 a0_0) := (blk_cell BK552.out 0).trans rfl
      have hcz15_1 : w6.cell? ⟨gb552, 1, none⟩ = some (.slice A0_1 l0_1.length c0_1) := (blk_cell BK552.out 1).trans rfl
      have hfz15_0 := blk_frozen BK552.out 0
      have hfz15_1 := blk_frozen BK552.out 1
      go_wp2_with (first | ((with_reducible refine gate_callee (f := 47) rfl ?_); refine goesM_ (some 14) rfl rfl Try.func47 (by kernel_rfl) rfl #[.agg #[.int .i64 a0_0, .slice A0_1 l0_1.length c0_1]] rfl ?_; (with_reducible refine (spec_GraphOk.calls k a0_0 _ _ l0_1 true _ ?side1 ?side2 A7.out).mono ?_); (case side1 => exact Cz ((Kd.C_below HR0_1.out HB.out))); (case side2 => exact HC0_1.out); rintro e w16 ⟨rfl, hb⟩; refine ⟨_, rfl, ?_⟩; replace BK552 := Aside0.mk (blk_below (g := gb552) (o := .cells #[.int .i64 a0_0, .slice A0_1 l0_1.length c0_1] 30 (0, 0)) (Bz BK552) hb); replace BK553 := Aside0.mk (blk_below (g := gb553) (o := .cells #[.int .i64 0, .slice none 0 0] 30 (0, 0)) (Bz BK553) hb); replace HB := Aside0.mk (below_step (by exact Lz2 HB GE552 GE553) hb); (try clear hb); (try clear hb2); (try clear hk); (try clear hi); have hcz17_0 : w16.cell? ⟨gb552, 0, none⟩ = some (.int .i64 a0_0) := (blk_cell BK552.out 0).trans rfl; have hcz17_1 : w16.cell? ⟨gb552, 1, none⟩ = some (.slice A0_1 l0_1.length c0_1) := (blk_cell BK552.out 1).trans rfl; have hfz17_0 := blk_frozen BK552.out 0; have hfz17_1 := blk_frozen BK552.out 1) | (go_at_call 63; (with_reducible refine (spec_l01In.calls a1 0 (wrap64 (a0_0 - 1)) true _ A9.out).mono ?_); rintro e w' ⟨rfl, ⟨nd, rfl⟩⟩) | (go_at_call 63; (with_reducible refine (spec_l01In.calls a2 0 (wrap64 (a0_0 - 1)) true _ A11.out).mono ?_); rintro e w' ⟨rfl, ⟨nd, rfl⟩⟩))
      go_meet
      case rel => exact ⟨_, (true), eqA, H', ⟨by first | omega | exact Nat.le_refl _⟩, ⟨by exact Bz BK552⟩, ⟨by exact Bz BK553⟩, ⟨by exact Lz2 HB GE552 GE553⟩⟩
     rw [if_neg c13] at H
     have c13b0 : (a1 == a2) = false := beq_eq_false_iff_ne.mpr c13
     have c13b1 : (a1 != a2) = true := bne_iff_ne.mpr c13
     (first | rw [c13b0] | (simp only [i64_w, i32_w]; rw [c13b0]) | skip)
     have H' := Aside0.mk H
     clear H
     have hnb18 := NB552_553.out
     have hnc18 := NB553_552.out
     have hcz19_0 : w6.cell? ⟨gb552, 0, none⟩ = some (.int .i64 a0_0) := (blk_cell BK552.out 0).trans rfl
     have hcz19_1 : w6.cell? ⟨gb552, 1, none⟩ = some (.slice A0_1 l0_1.length c0_1) := (blk_cell BK552.out 1).trans rfl
     have hfz19_0 := blk_frozen BK552.out 0
     have hfz19_1 := blk_frozen BK552.out 1
     go_wp2_with (first | ((with_reducible refine gate_callee (f := 47) rfl ?_); refine goesM_ (some 14) rfl rfl Try.func47 (by kernel_rfl) rfl #[.agg #[.int .i64 a0_0, .slice A0_1 l0_1.length c0_1]] rfl ?_; (with_reducible refine (spec_GraphOk.calls k a0_0 _ _ l0_1 true _ ?side1 ?side2 A7.out).mono ?_); (case side1 => exact Cz ((Kd.C_below HR0_1.out HB.out))); (case side2 => exact HC0_1.out); rintro e w20 ⟨rfl, hb⟩; refine ⟨_, rfl, ?_⟩; replace BK552 := Aside0.mk (blk_below (g := gb552) (o := .cells #[.int .i64 a0_0, .slice A0_1 l0_1.length c0_1] 30 (0, 0)) (Bz BK552) hb); replace BK553 := Aside0.mk (blk_below (g := gb553) (o := .cells #[.int .i64 0, .slice none 0 0] 30 (0, 0)) (Bz BK553) hb); replace HB := Aside0.mk (below_step (by exact Lz2 HB GE552 GE553) hb); (try clear hb); (try clear hb2); (try clear hk); (try clear hi); have hcz21_0 : w20.cell? ⟨gb552, 0, none⟩ = some (.int .i64 a0_0) := (blk_cell BK552.out 0).trans rfl; have hcz21_1 : w20.cell? ⟨gb552, 1, none⟩ = some (.slice A0_1 l0_1.length c0_1) := (blk_cell BK552.out 1).trans rfl; have hfz21_0 := blk_frozen BK552.out 0; have hfz21_1 := blk_frozen BK552.out 1) | (go_at_call 63; (with_reducible refine (spec_l01In.calls a1 0 (wrap64 (a0_0 - 1)) true _ A9.out).mono ?_); rintro e w' ⟨rfl, ⟨nd, rfl⟩⟩) | (go_at_call 63; (with_reducible refine (spec_l01In.calls a2 0 (wrap64 (a0_0 - 1)) true _ A11.out).mono ?_); rintro e w' ⟨rfl, ⟨nd, rfl⟩⟩))
     go_meet
     case rel => exact ⟨_, (((l0_1.length : Int) == 12)), eqA, H', ⟨by first | omega | exact Nat.le_refl _⟩, ⟨by exact Bz BK552⟩, ⟨by exact Bz BK553⟩, ⟨by exact Lz2 HB GE552 GE553⟩⟩
    replace c12 := Bool.eq_false_iff.mpr c12
    subst c12
    have H1 : (spec_AddEdge.j0 k a1 a2 true a0_0 l0_1) = some (r1, r2, r3) := by rw [if_neg (show ¬ (false = true) by decide)] at H; exact H
    clear H
    have H := H1
    clear H1
    have H' := Aside0.mk H
    clear H
    have hnb22 := NB552_553.out
    have hnc22 := NB553_552.out
    have hcz23_0 : w6.cell? ⟨gb552, 0, none⟩ = some (.int .i64 a0_0) := (blk_cell BK552.out 0).trans rfl
    have hcz23_1 : w6.cell? ⟨gb552, 1, none⟩ = some (.slice A0_1 l0_1.length c0_1) := (blk_cell BK552.out 1).trans rfl
    have hfz23_0 := blk_frozen BK552.out 0
    have hfz23_1 := blk_frozen BK552.out 1
    go_wp2_with (first | ((with_reducible refine gate_callee (f := 47) rfl ?_); refine goesM_ (some 14) rfl rfl Try.func47 (by kernel_rfl) rfl #[.agg #[.int .i64 a0_0, .slice A0_1 l0_1.length c0_1]] rfl ?_; (with_reducible refine (spec_GraphOk.calls k a0_0 _ _ l0_1 true _ ?side1 ?side2 A7.out).mono ?_); (case side1 => exact Cz ((Kd.C_below HR0_1.out HB.out))); (case side2 => exact HC0_1.out); rintro e w24 ⟨rfl, hb⟩; refine ⟨_, rfl, ?_⟩; replace BK552 := Aside0.mk (blk_below (g := gb552) (o := .cells #[.int .i64 a0_0, .slice A0_1 l0_1.length c0_1] 30 (0, 0)) (Bz BK552) hb); replace BK553 := Aside0.mk (blk_below (g := gb553) (o := .cells #[.int .i64 0, .slice none 0 0] 30 (0, 0)) (Bz BK553) hb); replace HB := Aside0.mk (below_step (by exact Lz2 HB GE552 GE553) hb); (try clear hb); (try clear hb2); (try clear hk); (try clear hi); have hcz25_0 : w24.cell? ⟨gb552, 0, none⟩ = some (.int .i64 a0_0) := (blk_cell BK552.out 0).trans rfl; have hcz25_1 : w24.cell? ⟨gb552, 1, none⟩ = some (.slice A0_1 l0_1.length c0_1) := (blk_cell BK552.out 1).trans rfl; have hfz25_0 := blk_frozen BK552.out 0; have hfz25_1 := blk_frozen BK552.out 1) | (go_at_call 63; (with_reducible refine (spec_l01In.calls a1 0 (wrap64 (a0_0 - 1)) true _ A9.out).mono ?_); rintro e w' ⟨rfl, ⟨nd, rfl⟩⟩) | (go_at_call 63; (with_reducible refine (spec_l01In.calls a2 0 (wrap64 (a0_0 - 1)) false _ A11.out).mono ?_); rintro e w' ⟨rfl, ⟨nd, rfl⟩⟩))
    go_meet
    case rel => exact ⟨_, (true), eqA, H', ⟨by first | omega | exact Nat.le_refl _⟩, ⟨by exact Bz BK552⟩, ⟨by exact Bz BK553⟩, ⟨by exact Lz2 HB GE552 GE553⟩⟩
   replace c10 := Bool.eq_false_iff.mpr c10
   subst c10
   have H1 : (spec_AddEdge.j0 k a1 a2 true a0_0 l0_1) = some (r1, r2, r3) := by rw [if_neg (show ¬ (false = true) by decide)] at H; exact H
   clear H
   have H := H1
   clear H1
   have H' := Aside0.mk H
   clear H
   have hnb26 := NB552_553.out
   have hnc26 := NB553_552.out
   have hcz27_0 : w6.cell? ⟨gb552, 0, none⟩ = some (.int .i64 a0_0) := (blk_cell BK552.out 0).trans rfl
   have hcz27_1 : w6.cell? ⟨gb552, 1, none⟩ = some (.slice A0_1 l0_1.length c0_1) := (blk_cell BK552.out 1).trans rfl
   have hfz27_0 := blk_frozen BK552.out 0
   have hfz27_1 := blk_frozen BK552.out 1
   go_wp2_with (first | ((with_reducible refine gate_callee (f := 47) rfl ?_); refine goesM_ (some 14) rfl rfl Try.func47 (by kernel_rfl) rfl #[.agg #[.int .i64 a0_0, .slice A0_1 l0_1.length c0_1]] rfl ?_; (with_reducible refine (spec_GraphOk.calls k a0_0 _ _ l0_1 true _ ?side1 ?side2 A7.out).mono ?_); (case side1 => exact Cz ((Kd.C_below HR0_1.out HB.out))); (case side2 => exact HC0_1.out); rintro e w28 ⟨rfl, hb⟩; refine ⟨_, rfl, ?_⟩; replace BK552 := Aside0.mk (blk_below (g := gb552) (o := .cells #[.int .i64 a0_0, .slice A0_1 l0_1.length c0_1] 30 (0, 0)) (Bz BK552) hb); replace BK553 := Aside0.mk (blk_below (g := gb553) (o := .cells #[.int .i64 0, .slice none 0 0] 30 (0, 0)) (Bz BK553) hb); replace HB := Aside0.mk (below_step (by exact Lz2 HB GE552 GE553) hb); (try clear hb); (try clear hb2); (try clear hk); (try clear hi); have hcz29_0 : w28.cell? ⟨gb552, 0, none⟩ = some (.int .i64 a0_0) := (blk_cell BK552.out 0).trans rfl; have hcz29_1 : w28.cell? ⟨gb552, 1, none⟩ = some (.slice A0_1 l0_1.length c0_1) := (blk_cell BK552.out 1).trans rfl; have hfz29_0 := blk_frozen BK552.out 0; have hfz29_1 := blk_frozen BK552.out 1) | (go_at_call 63; (with_reducible refine (spec_l01In.calls a1 0 (wrap64 (a0_0 - 1)) false _ A9.out).mono ?_); rintro e w' ⟨rfl, ⟨nd, rfl⟩⟩))
   go_meet
   case rel => exact ⟨_, (true), eqA, H', ⟨by first | omega | exact Nat.le_refl _⟩, ⟨by exact Bz BK552⟩, ⟨by exact Bz BK553⟩, ⟨by exact Lz2 HB GE552 GE553⟩⟩
  replace c8 := Bool.eq_false_iff.mpr c8
  subst c8
  have H1 : (spec_AddEdge.j0 k a1 a2 true a0_0 l0_1) = some (r1, r2, r3) := by rw [if_neg (show ¬ (false = true) by decide)] at H; exact H
  clear H
  have H := H1
  clear H1
  have H' := Aside0.mk H
  clear H
  have hnb30 := NB552_553.out
  have hnc30 := NB553_552.out
  have hcz31_0 : w6.cell? ⟨gb552, 0, none⟩ = some (.int .i64 a0_0) := (blk_cell BK552.out 0).trans rfl
  have hcz31_1 : w6.cell? ⟨gb552, 1, none⟩ = some (.slice A0_1 l0_1.length c0_1) := (blk_cell BK552.out 1).trans rfl
  have hfz31_0 := blk_frozen BK552.out 0
  have hfz31_1 := blk_frozen BK552.out 1
  go_wp2_with (first | ((with_reducible refine gate_callee (f := 47) rfl ?_); refine goesM_ (some 14) rfl rfl Try.func47 (by kernel_rfl) rfl #[.agg #[.int .i64 a0_0, .slice A0_1 l0_1.length c0_1]] rfl ?_; (with_reducible refine (spec_GraphOk.calls k a0_0 _ _ l0_1 false _ ?side1 ?side2 A7.out).mono ?_); (case side1 => exact Cz ((Kd.C_below HR0_1.out HB.out))); (case side2 => exact HC0_1.out); rintro e w32 ⟨rfl, hb⟩; refine ⟨_, rfl, ?_⟩; replace BK552 := Aside0.mk (blk_below (g := gb552) (o := .cells #[.int .i64 a0_0, .slice A0_1 l0_1.length c0_1] 30 (0, 0)) (Bz BK552) hb); replace BK553 := Aside0.mk (blk_below (g := gb553) (o := .cells #[.int .i64 0, .slice none 0 0] 30 (0, 0)) (Bz BK553) hb); replace HB := Aside0.mk (below_step (by exact Lz2 HB GE552 GE553) hb); (try clear hb); (try clear hb2); (try clear hk); (try clear hi)))
  go_meet
  case rel => exact ⟨_, (true), eqA, H', ⟨by first | omega | exact Nat.le_refl _⟩, ⟨by exact Bz BK552⟩, ⟨by exact Bz BK553⟩, ⟨by exact Lz2 HB GE552 GE553⟩⟩
 case rest =>
  clear HC4
  try clear c8
  try clear c10
  try clear c12
  try clear c13
  try clear c13b0
  try clear c13b1
  obtain ⟨kq, x42_3, rfl, HA, HJ3, BK552, BK553, HB⟩ := hcut
  cases kq with
  | zero => exact absurd HA.out (by simp [spec_AddEdge.j0])
  | succ kj3 =>
   have H := HA.out
   clear HA
   simp only [spec_AddEdge.j0] at H
   by_cases c33 : x42_3 = true
   ·subst c33
    have H1 : (some (0, ([] : List (S57)), false)) = some (r1, r2, r3) := by rw [if_pos rfl] at H; exact H
    clear H
    have H := H1
    clear H1
    simp only [Option.some.injEq, Prod.mk.injEq] at H
    obtain ⟨rfl, rfl, rfl⟩ := H
    have hnb34 := NB553_552.out
    have hnc34 := NB552_553.out
    have hcz35_0 : wc.cell? ⟨gb553, 0, none⟩ = some (.int .i64 0) := (blk_cell BK553.out 0).trans rfl
    have hcz35_1 : wc.cell? ⟨gb553, 1, none⟩ = some (.slice none 0 0) := (blk_cell BK553.out 1).trans rfl
    have hfz35_0 := blk_frozen BK553.out 0
    have hfz35_1 := blk_frozen BK553.out 1
    go_wp2
    refine bodyPost_ret (results_ct rfl _ _ gb553 30 #[.int .i64 0, .slice none 0 0] (0, 0) _ rfl (by (with_reducible repeat (first | refine blk_drewN ?_ _ | refine blk_drew ?_ | refine blk_alloc ?_ _)); refine blk_put (cs := #[.int .i64 0, .slice none 0 0]) ?_ 1 _ rfl; (with_reducible repeat (first | refine blk_drewN ?_ _ | refine blk_drew ?_ | refine blk_alloc ?_ _)); refine blk_put (cs := #[.int .i64 0, .slice none 0 0]) ?_ 0 _ rfl; exact Bz BK553) Try.underlying30 rfl (by kernel_rfl)) rfl ?_
    exact ⟨_, by first | rfl | (simp [errW_none, errW_some] <;> rfl) | (simp [*, errW_none, errW_some] <;> rfl), by first | exact Kd.R_nil _ _ _ _ _ | exact Kd.N_nil _ _ _ _ _ | exact Kd.V_nil _ _ _ _ _ | exact Kd.Q_nil _ _ _ _ _ | exact Kd.S_nil _ _ _ _ _, by exact Lz2 HB GE552 GE553⟩
   replace c33 := Bool.eq_false_iff.mpr c33
   subst c33
   have H1 : (spec_AddEdge.l0 kj3 false l0_1 (l0_1.length : Int) 0 (mn a1 a2) (mx a1 a2) a0_0 ([] : List (S57))) = some (r1, r2, r3) := by rw [if_neg (show ¬ (false = true) by decide)] at H; exact H
   clear H
   have H := H1
   clear H1
   obtain ⟨ji36, hji36⟩ : ∃ j_ : Int, (mn a1 a2) = j_ := ⟨_, rfl⟩
   replace H : (spec_AddEdge.l0 kj3 false l0_1 (l0_1.length : Int) 0 ji36 (mx a1 a2) a0_0 ([] : List (S57))) = some (r1, r2, r3) := by first | (rw [hji36] at H; exact H) | (simp only [hji36] at H ⊢; exact H)
   have hji36_ : (if a2 < a1 then a2 else a1) = ji36 := hji36
   obtain ⟨ji37, hji37⟩ : ∃ j_ : Int, (mx a1 a2) = j_ := ⟨_, rfl⟩
   replace H : (spec_AddEdge.l0 kj3 false l0_1 (l0_1.length : Int) 0 ji36 ji37 a0_0 ([] : List (S57))) = some (r1, r2, r3) := by first | (rw [hji37] at H; exact H) | (simp only [hji37] at H ⊢; exact H)
   have hji37_ : (if a1 < a2 then a2 else a1) = ji37 := hji37
   have H' := Aside0.mk H
   clear H
   go_wp2_with (first | ((with_reducible refine gate_dst (N := 8) rfl ?_); (try (refine gate_guard (by rfl) ?_; dsimp only)); refine box_event ?hg (N := 8) ?hd (cs := #[.int .i64 0, .int .i64 0]) (t := 57) ?hr ?_; (case hd => rfl); (case hg => rfl); (case hr => first | (go_simp; done) | (go_simp; rfl)); intro gb557 hg w38 hbox hb; have BK557 := Aside0.mk (hbox); have GW557 := Aside0.mk ((by rw [hg]; exact (below_size (by exact Lz2 HB GE552 GE553)) : w.heap.size ≤ gb557)); have GE557 := Aside0.mk ((by rw [hg]; exact (below_size (by exact Lz2 HB GE552 GE553)) : w.heap.size ≤ gb557)); replace HB := Aside0.mk (below_step (by exact Lz2 HB GE552 GE553) hb); have NB552_557 := Aside0.mk ((by rw [hg]; exact Nat.ne_of_lt (blk_lt (g := gb552) (o := .cells #[.int .i64 a0_0, .slice A0_1 l0_1.length c0_1] 30 (0, 0)) (Bz BK552)) : gb552 ≠ gb557)); have NB557_552 := Aside0.mk ((by rw [hg]; exact Nat.ne_of_gt (blk_lt (g := gb552) (o := .cells #[.int .i64 a0_0, .slice A0_1 l0_1.length c0_1] 30 (0, 0)) (Bz BK552)) : gb557 ≠ gb552)); replace BK552 := Aside0.mk (blk_below (g := gb552) (o := .cells #[.int .i64 a0_0, .slice A0_1 l0_1.length c0_1] 30 (0, 0)) (Bz BK552) hb); have NB553_557 := Aside0.mk ((by rw [hg]; exact Nat.ne_of_lt (blk_lt (g := gb553) (o := .cells #[.int .i64 0, .slice none 0 0] 30 (0, 0)) (Bz BK553)) : gb553 ≠ gb557)); have NB557_553 := Aside0.mk ((by rw [hg]; exact Nat.ne_of_gt (blk_lt (g := gb553) (o := .cells #[.int .i64 0, .slice none 0 0] 30 (0, 0)) (Bz BK553)) : gb557 ≠ gb553)); replace BK553 := Aside0.mk (blk_below (g := gb553) (o := .cells #[.int .i64 0, .slice none 0 0] 30 (0, 0)) (Bz BK553) hb); clear hb hbox hg; have hnb39 := NB557_552.out; have hnc39 := NB552_557.out; have hnb40 := NB557_553.out; have hnc40 := NB553_557.out; have hcz41_0 : w38.cell? ⟨gb557, 0, none⟩ = some (.int .i64 0) := (blk_cell BK557.out 0).trans rfl; have hcz41_1 : w38.cell? ⟨gb557, 1, none⟩ = some (.int .i64 0) := (blk_cell BK557.out 1).trans rfl; have hfz41_0 := blk_frozen BK557.out 0; have hfz41_1 := blk_frozen BK557.out 1; have hnb42 := NB552_553.out; have hnc42 := NB553_552.out; have hcz43_0 : w38.cell? ⟨gb552, 0, none⟩ = some (.int .i64 a0_0) := (blk_cell BK552.out 0).trans rfl; have hcz43_1 : w38.cell? ⟨gb552, 1, none⟩ = some (.slice A0_1 l0_1.length c0_1) := (blk_cell BK552.out 1).trans rfl; have hfz43_0 := blk_frozen BK552.out 0; have hfz43_1 := blk_frozen BK552.out 1) | ((with_reducible refine gate_dst (N := 9) rfl ?_); (try (refine gate_guard (by rfl) ?_; dsimp only)); refine box_event ?hg (N := 9) ?hd (cs := #[.int .i64 0, .slice none 0 0]) (t := 30) ?hr ?_; (case hd => rfl); (case hg => rfl); (case hr => first | (go_simp; done) | (go_simp; rfl)); intro gb558 hg w44 hbox hb; have BK558 := Aside0.mk (hbox); have GW558 := Aside0.mk ((by rw [hg]; exact (below_size (by exact Lz3 HB GE552 GE553 GE557)) : w.heap.size ≤ gb558)); have GE558 := Aside0.mk ((by rw [hg]; exact (below_size (by exact Lz3 HB GE552 GE553 GE557)) : w.heap.size ≤ gb558)); replace HB := Aside0.mk (below_step (by exact Lz3 HB GE552 GE553 GE557) hb); have NB552_558 := Aside0.mk ((by rw [hg]; exact Nat.ne_of_lt (blk_lt (g := gb552) (o := .cells #[.int .i64 a0_0, .slice A0_1 l0_1.length c0_1] 30 (0, 0)) (by (with_reducible repeat (first | refine blk_drewN ?_ _ | refine blk_drew ?_ | refine blk_alloc ?_ _)); refine blk_far ?_ NB552_557.out _; (with_reducible repeat (first | refine blk_drewN ?_ _ | refine blk_drew ?_ | refine blk_alloc ?_ _)); refine blk_far ?_ NB552_557.out _; exact Bz BK552)) : gb552 ≠ gb558)); have NB558_552 := Aside0.mk ((by rw [hg]; exact Nat.ne_of_gt (blk_lt (g := gb552) (o := .cells #[.int .i64 a0_0, .slice A0_1 l0_1.length c0_1] 30 (0, 0)) (by (with_reducible repeat (first | refine blk_drewN ?_ _ | refine blk_drew ?_ | refine blk_alloc ?_ _)); refine blk_far ?_ NB552_557.out _; (with_reducible repeat (first | refine blk_drewN ?_ _ | refine blk_drew ?_ | refine blk_alloc ?_ _)); refine blk_far ?_ NB552_557.out _; exact Bz BK552)) : gb558 ≠ gb552)); replace BK552 := Aside0.mk (blk_below (g := gb552) (o := .cells #[.int .i64 a0_0, .slice A0_1 l0_1.length c0_1] 30 (0, 0)) (by (with_reducible repeat (first | refine blk_drewN ?_ _ | refine blk_drew ?_ | refine blk_alloc ?_ _)); refine blk_far ?_ NB552_557.out _; (with_reducible repeat (first | refine blk_drewN ?_ _ | refine blk_drew ?_ | refine blk_alloc ?_ _)); refine blk_far ?_ NB552_557.out _; exact Bz BK552) hb); have NB553_558 := Aside0.mk ((by rw [hg]; exact Nat.ne_of_lt (blk_lt (g := gb553) (o := .cells #[.int .i64 0, .slice none 0 0] 30 (0, 0)) (by (with_reducible repeat (first | refine blk_drewN ?_ _ | refine blk_drew ?_ | refine blk_alloc ?_ _)); refine blk_far ?_ NB553_557.out _; (with_reducible repeat (first | refine blk_drewN ?_ _ | refine blk_drew ?_ | refine blk_alloc ?_ _)); refine blk_far ?_ NB553_557.out _; exact Bz BK553)) : gb553 ≠ gb558)); have NB558_553 := Aside0.mk ((by rw [hg]; exact Nat.ne_of_gt (blk_lt (g := gb553) (o := .cells #[.int .i64 0, .slice none 0 0] 30 (0, 0)) (by (with_reducible repeat (first | refine blk_drewN ?_ _ | refine blk_drew ?_ | refine blk_alloc ?_ _)); refine blk_far ?_ NB553_557.out _; (with_reducible repeat (first | refine blk_drewN ?_ _ | refine blk_drew ?_ | refine blk_alloc ?_ _)); refine blk_far ?_ NB553_557.out _; exact Bz BK553)) : gb558 ≠ gb553)); replace BK553 := Aside0.mk (blk_below (g := gb553) (o := .cells #[.int .i64 0, .slice none 0 0] 30 (0, 0)) (by (with_reducible repeat (first | refine blk_drewN ?_ _ | refine blk_drew ?_ | refine blk_alloc ?_ _)); refine blk_far ?_ NB553_557.out _; (with_reducible repeat (first | refine blk_drewN ?_ _ | refine blk_drew ?_ | refine blk_alloc ?_ _)); refine blk_far ?_ NB553_557.out _; exact Bz BK553) hb); have NB557_558 := Aside0.mk ((by rw [hg]; exact Nat.ne_of_lt (blk_lt (g := gb557) (o := .cells #[.int .i64 ji36, .int .i64 ji37] 57 (0, 0)) (by (with_reducible repeat (first | refine blk_drewN ?_ _ | refine blk_drew ?_ | refine blk_alloc ?_ _)); refine blk_put (cs := #[.int .i64 ji36, .int .i64 0]) ?_ 1 _ rfl; (with_reducible repeat (first | refine blk_drewN ?_ _ | refine blk_drew ?_ | refine blk_alloc ?_ _)); refine blk_put (cs := #[.int .i64 0, .int .i64 0]) ?_ 0 _ rfl; exact Bz BK557)) : gb557 ≠ gb558)); have NB558_557 := Aside0.mk ((by rw [hg]; exact Nat.ne_of_gt (blk_lt (g := gb557) (o := .cells #[.int .i64 ji36, .int .i64 ji37] 57 (0, 0)) (by (with_reducible repeat (first | refine blk_drewN ?_ _ | refine blk_drew ?_ | refine blk_alloc ?_ _)); refine blk_put (cs := #[.int .i64 ji36, .int .i64 0]) ?_ 1 _ rfl; (with_reducible repeat (first | refine blk_drewN ?_ _ | refine blk_drew ?_ | refine blk_alloc ?_ _)); refine blk_put (cs := #[.int .i64 0, .int .i64 0]) ?_ 0 _ rfl; exact Bz BK557)) : gb558 ≠ gb557)); replace BK557 := Aside0.mk (blk_below (g := gb557) (o := .cells #[.int .i64 ji36, .int .i64 ji37] 57 (0, 0)) (by (with_reducible repeat (first | refine blk_drewN ?_ _ | refine blk_drew ?_ | refine blk_alloc ?_ _)); refine blk_put (cs := #[.int .i64 ji36, .int .i64 0]) ?_ 1 _ rfl; (with_reducible repeat (first | refine blk_drewN ?_ _ | refine blk_drew ?_ | refine blk_alloc ?_ _)); refine blk_put (cs := #[.int .i64 0, .int .i64 0]) ?_ 0 _ rfl; exact Bz BK557) hb); clear hb hbox hg; have hnb45 := NB558_552.out; have hnc45 := NB552_558.out; have hnb46 := NB558_553.out; have hnc46 := NB553_558.out; have hnb47 := NB558_557.out; have hnc47 := NB557_558.out; have hcz48_0 : w44.cell? ⟨gb558, 0, none⟩ = some (.int .i64 0) := (blk_cell BK558.out 0).trans rfl; have hcz48_1 : w44.cell? ⟨gb558, 1, none⟩ = some (.slice none 0 0) := (blk_cell BK558.out 1).trans rfl; have hfz48_0 := blk_frozen BK558.out 0; have hfz48_1 := blk_frozen BK558.out 1; have hcz49_0 : w44.cell? ⟨gb552, 0, none⟩ = some (.int .i64 a0_0) := (blk_cell BK552.out 0).trans rfl; have hcz49_1 : w44.cell? ⟨gb552, 1, none⟩ = some (.slice A0_1 l0_1.length c0_1) := (blk_cell BK552.out 1).trans rfl; have hfz49_0 := blk_frozen BK552.out 0; have hfz49_1 := blk_frozen BK552.out 1))
   go_loopg [10, 57] kj3 (fun kq v10 v57 w' => ∃ (x10_2 : Bool) (x57_2 : Int) (x559001_2 : List (S57)) (u559001 : Value), v10 = .bool x10_2 ∧ v57 = .int .i64 x57_2 ∧ Aside0 (spec_AddEdge.l0 kq x10_2 l0_1 (l0_1.length : Int) x57_2 ji36 ji37 a0_0 x559001_2 = some (r1, r2, r3)) ∧ Aside0 (kq ≤ kj3) ∧ Aside0 (Kd.R k57 57 w' w.heap.size (fun k_ => k_ ≠ gb557) u559001 x559001_2) ∧ Aside0 (w'.heap[gb552]? = some (.cells #[.int .i64 a0_0, (.slice A0_1 l0_1.length c0_1)] 30 (0, 0))) ∧ Aside0 (w'.heap[gb553]? = some (.cells #[.int .i64 0, (.slice none 0 0)] 30 (0, 0))) ∧ Aside0 (w'.heap[gb557]? = some (.cells #[.int .i64 ji36, .int .i64 ji37] 57 (0, 0))) ∧ Aside0 (w'.heap[gb558]? = some (.cells #[.int .i64 a0_0, u559001] 30 (0, 0))) ∧ Aside0 (Below w.heap.size w w'))
   case atStart => exact ⟨(false), (0), (([] : List (S57))), (.slice none 0 0), eqA, eqA, H', ⟨Nat.le_refl _⟩, ⟨by first | exact Kd.R_nil _ _ _ _ _ | exact Kd.N_nil _ _ _ _ _ | exact Kd.V_nil _ _ _ _ _ | exact Kd.Q_nil _ _ _ _ _ | exact Kd.S_nil _ _ _ _ _⟩, ⟨by (with_reducible repeat (first | refine blk_drewN ?_ _ | refine blk_drew ?_ | refine blk_alloc ?_ _)); refine blk_far ?_ NB552_558.out _; (with_reducible repeat (first | refine blk_drewN ?_ _ | refine blk_drew ?_ | refine blk_alloc ?_ _)); refine blk_far ?_ NB552_558.out _; exact Bz BK552⟩, ⟨by (with_reducible repeat (first | refine blk_drewN ?_ _ | refine blk_drew ?_ | refine blk_alloc ?_ _)); refine blk_far ?_ NB553_558.out _; (with_reducible repeat (first | refine blk_drewN ?_ _ | refine blk_drew ?_ | refine blk_alloc ?_ _)); refine blk_far ?_ NB553_558.out _; exact Bz BK553⟩, ⟨by (with_reducible repeat (first | refine blk_drewN ?_ _ | refine blk_drew ?_ | refine blk_alloc ?_ _)); refine blk_far ?_ NB557_558.out _; (with_reducible repeat (first | refine blk_drewN ?_ _ | refine blk_drew ?_ | refine blk_alloc ?_ _)); refine blk_far ?_ NB557_558.out _; exact Bz BK557⟩, ⟨by (with_reducible repeat (first | refine blk_drewN ?_ _ | refine blk_drew ?_ | refine blk_alloc ?_ _)); refine blk_put (cs := #[.int .i64 a0_0, .slice none 0 0]) ?_ 1 _ rfl; (with_reducible repeat (first | refine blk_drewN ?_ _ | refine blk_drew ?_ | refine blk_alloc ?_ _)); refine blk_put (cs := #[.int .i64 0, .slice none 0 0]) ?_ 0 _ rfl; exact Bz BK558⟩, ⟨by first | exact Lz HB | repeat (first | (with_reducible first | exact HB.out | apply below_alloc | apply pw_below_drewN | apply below_drew1 | refine below_set ?_ GE552.out | refine below_set ?_ GE553.out | refine below_set ?_ GE557.out | refine below_set ?_ GE558.out) | exact HB.out)⟩⟩
   case round =>
    clear H'
    try clear c8
    try clear c10
    try clear c12
    try clear c13
    try clear c13b0
    try clear c13b1
    try clear c33
    obtain ⟨x10_2, x57_2, x559001_2, u559001, rfl, rfl, HA, HK2, HO_559001, BK552, BK553, BK557, BK558, HB⟩ := hrel
    cases gk with
    | zero => exact absurd HA.out (by simp [spec_AddEdge.l0])
    | succ k2 =>
     have H := HA.out
     clear HA
     simp only [spec_AddEdge.l0] at H
     by_cases c50 : x57_2 < (l0_1.length : Int)
     ·rw [if_pos c50] at H
      have c50b0 : decide (x57_2 < (l0_1.length : Int)) = true := decide_eq_true c50
      clear c50
      by_cases c51 : 0 ≤ x57_2
      ·rw [if_pos c51] at H
       have c51b0 : decide (0 ≤ x57_2) = true := decide_eq_true c51
       clear c51
       by_cases c52 : x57_2 < (l0_1.length : Int)
       ·rw [if_pos c52] at H
        have c52b0 : decide (x57_2 < (l0_1.length : Int)) = true := decide_eq_true c52
        clear c52
        have HC53 := Aside0.mk H
        clear H
        have p559 : 0 ≤ (x57_2 : Int) := ofA
        have q559 : x57_2 < (l0_1.length : Int) := ofA
        obtain ⟨ad559, e559, hx559_0, hx559_1⟩ := at_T57 HR0_1.out x57_2 p559 q559
        cases e559
        replace hx559_0 := (HB.out.cell (World.block_lt_of_cell? w _ hx559_0)).trans hx559_0
        replace hx559_1 := (HB.out.cell (World.block_lt_of_cell? w _ hx559_1)).trans hx559_1
        replace p559 := eq_true p559
        replace q559 := eq_true q559
        go_upto_region 9 with (first | ((with_reducible refine gate_dst (N := 12) rfl ?_); (try (refine gate_guard (by rfl) ?_; dsimp only)); refine box_event ?hg (N := 12) ?hd (cs := #[.int .i64 0, .int .i64 0]) (t := 57) ?hr ?_; (case hd => rfl); (case hg => rfl); (case hr => first | (go_simp; done) | (go_simp; rfl)); intro gb560 hg w54 hbox hb; replace HO_559001 := Aside0.mk (Kd.R_below (Kd.R_elderB (Rz HO_559001) gb560 (Nat.le_of_eq hg.symm)) hb); have BK560 := Aside0.mk (hbox); have GW560 := Aside0.mk ((by rw [hg]; exact (below_size (by first | exact Lz HB | repeat (first | (with_reducible first | exact HB.out | apply below_alloc | apply pw_below_drewN | apply below_drew1 | refine below_set ?_ GE552.out | refine below_set ?_ GE553.out | refine below_set ?_ GE557.out | refine below_set ?_ GE558.out) | exact HB.out))) : w.heap.size ≤ gb560)); have GE560 := Aside0.mk ((by rw [hg]; exact (below_size (by first | exact Lz HB | repeat (first | (with_reducible first | exact HB.out | apply below_alloc | apply pw_below_drewN | apply below_drew1 | refine below_set ?_ GE552.out | refine below_set ?_ GE553.out | refine below_set ?_ GE557.out | refine below_set ?_ GE558.out) | exact HB.out))) : w.heap.size ≤ gb560)); replace HB := Aside0.mk (below_step (by first | exact Lz HB | repeat (first | (with_reducible first | exact HB.out | apply below_alloc | apply pw_below_drewN | apply below_drew1 | refine below_set ?_ GE552.out | refine below_set ?_ GE553.out | refine below_set ?_ GE557.out | refine below_set ?_ GE558.out) | exact HB.out)) hb); have NB552_560 := Aside0.mk ((by rw [hg]; exact Nat.ne_of_lt (blk_lt (g := gb552) (o := .cells #[.int .i64 a0_0, .slice (some ad559) l0_1.length c0_1] 30 (0, 0)) (Bz BK552)) : gb552 ≠ gb560)); have NB560_552 := Aside0.mk ((by rw [hg]; exact Nat.ne_of_gt (blk_lt (g := gb552) (o := .cells #[.int .i64 a0_0, .slice (some ad559) l0_1.length c0_1] 30 (0, 0)) (Bz BK552)) : gb560 ≠ gb552)); replace BK552 := Aside0.mk (blk_below (g := gb552) (o := .cells #[.int .i64 a0_0, .slice (some ad559) l0_1.length c0_1] 30 (0, 0)) (Bz BK552) hb); have NB553_560 := Aside0.mk ((by rw [hg]; exact Nat.ne_of_lt (blk_lt (g := gb553) (o := .cells #[.int .i64 0, .slice none 0 0] 30 (0, 0)) (Bz BK553)) : gb553 ≠ gb560)); have NB560_553 := Aside0.mk ((by rw [hg]; exact Nat.ne_of_gt (blk_lt (g := gb553) (o := .cells #[.int .i64 0, .slice none 0 0] 30 (0, 0)) (Bz BK553)) : gb560 ≠ gb553)); replace BK553 := Aside0.mk (blk_below (g := gb553) (o := .cells #[.int .i64 0, .slice none 0 0] 30 (0, 0)) (Bz BK553) hb); have NB557_560 := Aside0.mk ((by rw [hg]; exact Nat.ne_of_lt (blk_lt (g := gb557) (o := .cells #[.int .i64 ji36, .int .i64 ji37] 57 (0, 0)) (Bz BK557)) : gb557 ≠ gb560)); have NB560_557 := Aside0.mk ((by rw [hg]; exact Nat.ne_of_gt (blk_lt (g := gb557) (o := .cells #[.int .i64 ji36, .int .i64 ji37] 57 (0, 0)) (Bz BK557)) : gb560 ≠ gb557)); replace BK557 := Aside0.mk (blk_below (g := gb557) (o := .cells #[.int .i64 ji36, .int .i64 ji37] 57 (0, 0)) (Bz BK557) hb); have NB558_560 := Aside0.mk ((by rw [hg]; exact Nat.ne_of_lt (blk_lt (g := gb558) (o := .cells #[.int .i64 a0_0, u559001] 30 (0, 0)) (Bz BK558)) : gb558 ≠ gb560)); have NB560_558 := Aside0.mk ((by rw [hg]; exact Nat.ne_of_gt (blk_lt (g := gb558) (o := .cells #[.int .i64 a0_0, u559001] 30 (0, 0)) (Bz BK558)) : gb560 ≠ gb558)); replace BK558 := Aside0.mk (blk_below (g := gb558) (o := .cells #[.int .i64 a0_0, u559001] 30 (0, 0)) (Bz BK558) hb); clear hb hbox hg; have hnb55 := NB560_552.out; have hnc55 := NB552_560.out; have hnb56 := NB560_553.out; have hnc56 := NB553_560.out; have hnb57 := NB560_557.out; have hnc57 := NB557_560.out; have hnb58 := NB560_558.out; have hnc58 := NB558_560.out; have hcz59_0 : w54.cell? ⟨gb560, 0, none⟩ = some (.int .i64 0) := (blk_cell BK560.out 0).trans rfl; have hcz59_1 : w54.cell? ⟨gb560, 1, none⟩ = some (.int .i64 0) := (blk_cell BK560.out 1).trans rfl; have hfz59_0 := blk_frozen BK560.out 0; have hfz59_1 := blk_frozen BK560.out 1))
        (try simp only [Act.put, List.setIfInBounds_toArray, List.set_cons_zero, List.set_cons_succ])
        go_cut [83] (fun v83 wc => ∃ (kq : Nat) (x83_52 : Bool), v83 = .bool x83_52 ∧ Aside0 (spec_AddEdge.j2 kq x10_2 l0_1 (l0_1.length : Int) x57_2 x83_52 ji36 ji37 a0_0 x559001_2 ((rd_T57 l0_1 x57_2).f0) ((rd_T57 l0_1 x57_2).f1) = some (r1, r2, r3)) ∧ Aside0 (kq ≤ k2) ∧ Aside0 (Kd.R k57 57 wc w.heap.size (fun k_ => k_ ≠ gb557 ∧ k_ ≠ gb560) u559001 x559001_2) ∧ Aside0 (wc.heap[gb552]? = some (.cells #[.int .i64 a0_0, (.slice (some ad559) l0_1.length c0_1)] 30 (0, 0))) ∧ Aside0 (wc.heap[gb553]? = some (.cells #[.int .i64 0, (.slice none 0 0)] 30 (0, 0))) ∧ Aside0 (wc.heap[gb557]? = some (.cells #[.int .i64 ji36, .int .i64 ji37] 57 (0, 0))) ∧ Aside0 (wc.heap[gb558]? = some (.cells #[.int .i64 a0_0, u559001] 30 (0, 0))) ∧ Aside0 (wc.heap[gb560]? = some (.cells #[.int .i64 ((rd_T57 l0_1 x57_2).f0), .int .i64 ((rd_T57 l0_1 x57_2).f1)] 57 (0, 0))) ∧ Aside0 (Below w.heap.size w wc))
        case first =>
         have H := HC53.out
         clear HC53
         by_cases c60 : x10_2 = true
         ·subst c60
          have H1 : (spec_AddEdge.j2 k2 true l0_1 (l0_1.length : Int) x57_2 false ji36 ji37 a0_0 x559001_2 ((rd_T57 l0_1 x57_2).f0) ((rd_T57 l0_1 x57_2).f1)) = some (r1, r2, r3) := by rw [if_pos rfl] at H; exact H
          clear H
          have H := H1
          clear H1
          have H' := Aside0.mk H
          clear H
          go_wp2
          go_meet
          case rel => exact ⟨_, (false), eqA, H', ⟨by have := HJ3.out; have := HK2.out; first | omega | exact Nat.le_refl _⟩, ⟨by (with_reducible repeat (first | apply Kd.R_alloc | apply Kd.R_drewN | apply Kd.R_drew)); exact Kd.R_mono (Kd.R_far (p := ⟨gb560, 1, none⟩) (Kd.R_far (p := ⟨gb560, 0, none⟩) (Kd.R_mono HO_559001.out (fun k_ hk => (⟨hk, hk.2⟩ : _ ∧ k_ ≠ gb560))) (fun _ hk => hk.2) (.int .i64 ((rd_T57 l0_1 x57_2).f0))) (fun _ hk => hk.2) (.int .i64 ((rd_T57 l0_1 x57_2).f1))) (fun _ hk => ⟨hk.1.1, hk.1.2⟩)⟩, ⟨by (with_reducible repeat (first | refine blk_drewN ?_ _ | refine blk_drew ?_ | refine blk_alloc ?_ _)); refine blk_far ?_ NB552_560.out _; (with_reducible repeat (first | refine blk_drewN ?_ _ | refine blk_drew ?_ | refine blk_alloc ?_ _)); refine blk_far ?_ NB552_560.out _; exact Bz BK552⟩, ⟨by (with_reducible repeat (first | refine blk_drewN ?_ _ | refine blk_drew ?_ | refine blk_alloc ?_ _)); refine blk_far ?_ NB553_560.out _; (with_reducible repeat (first | refine blk_drewN ?_ _ | refine blk_drew ?_ | refine blk_alloc ?_ _)); refine blk_far ?_ NB553_560.out _; exact Bz BK553⟩, ⟨by (with_reducible repeat (first | refine blk_drewN ?_ _ | refine blk_drew ?_ | refine blk_alloc ?_ _)); refine blk_far ?_ NB557_560.out _; (with_reducible repeat (first | refine blk_drewN ?_ _ | refine blk_drew ?_ | refine blk_alloc ?_ _)); refine blk_far ?_ NB557_560.out _; exact Bz BK557⟩, ⟨by (with_reducible repeat (first | refine blk_drewN ?_ _ | refine blk_drew ?_ | refine blk_alloc ?_ _)); refine blk_far ?_ NB558_560.out _; (with_reducible repeat (first | refine blk_drewN ?_ _ | refine blk_drew ?_ | refine blk_alloc ?_ _)); refine blk_far ?_ NB558_560.out _; exact Bz BK558⟩, ⟨by (with_reducible repeat (first | refine blk_drewN ?_ _ | refine blk_drew ?_ | refine blk_alloc ?_ _)); refine blk_put (cs := #[.int .i64 ((rd_T57 l0_1 x57_2).f0), .int .i64 0]) ?_ 1 _ rfl; (with_reducible repeat (first | refine blk_drewN ?_ _ | refine blk_drew ?_ | refine blk_alloc ?_ _)); refine blk_put (cs := #[.int .i64 0, .int .i64 0]) ?_ 0 _ rfl; exact Bz BK560⟩, ⟨by first | exact Lz HB | repeat (first | (with_reducible first | exact HB.out | apply below_alloc | apply pw_below_drewN | apply below_drew1 | refine below_set ?_ GE552.out | refine below_set ?_ GE553.out | refine below_set ?_ GE557.out | refine below_set ?_ GE558.out | refine below_set ?_ GE560.out) | exact HB.out)⟩⟩
         replace c60 := Bool.eq_false_iff.mpr c60
         subst c60
         have H1 : (if ((rd_T57 l0_1 x57_2).f0) > ji36 then (spec_AddEdge.j2 k2 false l0_1 (l0_1.length : Int) x57_2 true ji36 ji37 a0_0 x559001_2 ((rd_T57 l0_1 x57_2).f0) ((rd_T57 l0_1 x57_2).f1)) else (if ((rd_T57 l0_1 x57_2).f0) = ji36 then (spec_AddEdge.j2 k2 false l0_1 (l0_1.length : Int) x57_2 (decide (((rd_T57 l0_1 x57_2).f1) > ji37)) ji36 ji37 a0_0 x559001_2 ((rd_T57 l0_1 x57_2).f0) ((rd_T57 l0_1 x57_2).f1)) else (spec_AddEdge.j2 k2 false l0_1 (l0_1.length : Int) x57_2 false ji36 ji37 a0_0 x559001_2 ((rd_T57 l0_1 x57_2).f0) ((rd_T57 l0_1 x57_2).f1)))) = some (r1, r2, r3) := by rw [if_neg (show ¬ (false = true) by decide)] at H; exact H
         clear H
         have H := H1
         clear H1
         by_cases c61 : ((rd_T57 l0_1 x57_2).f0) > ji36
         ·rw [if_pos c61] at H
          have c61b0 : decide (ji36 < ((rd_T57 l0_1 x57_2).f0)) = true := decide_eq_true c61
          clear c61
          (first | rw [c61b0] | (simp only [i64_w, i32_w]; rw [c61b0]) | skip)
          have H' := Aside0.mk H
          clear H
          have hnb62 := NB560_552.out
          have hnc62 := NB552_560.out
          have hnb63 := NB560_553.out
          have hnc63 := NB553_560.out
          have hnb64 := NB560_557.out
          have hnc64 := NB557_560.out
          have hnb65 := NB560_558.out
          have hnc65 := NB558_560.out
          have hcz66_0 : w54.cell? ⟨gb560, 0, none⟩ = some (.int .i64 0) := (blk_cell BK560.out 0).trans rfl
          have hcz66_1 : w54.cell? ⟨gb560, 1, none⟩ = some (.int .i64 0) := (blk_cell BK560.out 1).trans rfl
          have hfz66_0 := blk_frozen BK560.out 0
          have hfz66_1 := blk_frozen BK560.out 1
          have hnb67 := NB557_552.out
          have hnc67 := NB552_557.out
          have hnb68 := NB557_553.out
          have hnc68 := NB553_557.out
          have hnb69 := NB557_558.out
          have hnc69 := NB558_557.out
          have hcz70_0 : w54.cell? ⟨gb557, 0, none⟩ = some (.int .i64 ji36) := (blk_cell BK557.out 0).trans rfl
          have hcz70_1 : w54.cell? ⟨gb557, 1, none⟩ = some (.int .i64 ji37) := (blk_cell BK557.out 1).trans rfl
          have hfz70_0 := blk_frozen BK557.out 0
          have hfz70_1 := blk_frozen BK557.out 1
          go_wp2
          go_meet
          case rel => exact ⟨_, (true), eqA, H', ⟨by have := HJ3.out; have := HK2.out; first | omega | exact Nat.le_refl _⟩, ⟨by (with_reducible repeat (first | apply Kd.R_alloc | apply Kd.R_drewN | apply Kd.R_drew)); exact Kd.R_mono (Kd.R_far (p := ⟨gb560, 1, none⟩) (Kd.R_far (p := ⟨gb560, 0, none⟩) (Kd.R_mono HO_559001.out (fun k_ hk => (⟨hk, hk.2⟩ : _ ∧ k_ ≠ gb560))) (fun _ hk => hk.2) (.int .i64 ((rd_T57 l0_1 x57_2).f0))) (fun _ hk => hk.2) (.int .i64 ((rd_T57 l0_1 x57_2).f1))) (fun _ hk => ⟨hk.1.1, hk.1.2⟩)⟩, ⟨by (with_reducible repeat (first | refine blk_drewN ?_ _ | refine blk_drew ?_ | refine blk_alloc ?_ _)); refine blk_far ?_ NB552_560.out _; (with_reducible repeat (first | refine blk_drewN ?_ _ | refine blk_drew ?_ | refine blk_alloc ?_ _)); refine blk_far ?_ NB552_560.out _; exact Bz BK552⟩, ⟨by (with_reducible repeat (first | refine blk_drewN ?_ _ | refine blk_drew ?_ | refine blk_alloc ?_ _)); refine blk_far ?_ NB553_560.out _; (with_reducible repeat (first | refine blk_drewN ?_ _ | refine blk_drew ?_ | refine blk_alloc ?_ _)); refine blk_far ?_ NB553_560.out _; exact Bz BK553⟩, ⟨by (with_reducible repeat (first | refine blk_drewN ?_ _ | refine blk_drew ?_ | refine blk_alloc ?_ _)); refine blk_far ?_ NB557_560.out _; (with_reducible repeat (first | refine blk_drewN ?_ _ | refine blk_drew ?_ | refine blk_alloc ?_ _)); refine blk_far ?_ NB557_560.out _; exact Bz BK557⟩, ⟨by (with_reducible repeat (first | refine blk_drewN ?_ _ | refine blk_drew ?_ | refine blk_alloc ?_ _)); refine blk_far ?_ NB558_560.out _; (with_reducible repeat (first | refine blk_drewN ?_ _ | refine blk_drew ?_ | refine blk_alloc ?_ _)); refine blk_far ?_ NB558_560.out _; exact Bz BK558⟩, ⟨by (with_reducible repeat (first | refine blk_drewN ?_ _ | refine blk_drew ?_ | refine blk_alloc ?_ _)); refine blk_put (cs := #[.int .i64 ((rd_T57 l0_1 x57_2).f0), .int .i64 0]) ?_ 1 _ rfl; (with_reducible repeat (first | refine blk_drewN ?_ _ | refine blk_drew ?_ | refine blk_alloc ?_ _)); refine blk_put (cs := #[.int .i64 0, .int .i64 0]) ?_ 0 _ rfl; exact Bz BK560⟩, ⟨by first | exact Lz HB | repeat (first | (with_reducible first | exact HB.out | apply below_alloc | apply pw_below_drewN | apply below_drew1 | refine below_set ?_ GE552.out | refine below_set ?_ GE553.out | refine below_set ?_ GE557.out | refine below_set ?_ GE558.out | refine below_set ?_ GE560.out) | exact HB.out)⟩⟩
         rw [if_neg c61] at H
         have c61b0 : decide (ji36 < ((rd_T57 l0_1 x57_2).f0)) = false := decide_eq_false c61
         clear c61
         (first | rw [c61b0] | (simp only [i64_w, i32_w]; rw [c61b0]) | skip)
         by_cases c71 : ((rd_T57 l0_1 x57_2).f0) = ji36
         ·rw [if_pos c71] at H
          have c71b0 : (((rd_T57 l0_1 x57_2).f0) == ji36) = true := beq_iff_eq.mpr c71
          have c71b1 : (((rd_T57 l0_1 x57_2).f0) != ji36) = false := bne_eq_false_iff_eq.mpr c71
          clear c71
          have H' := Aside0.mk H
          clear H
          have hnb72 := NB560_552.out
          have hnc72 := NB552_560.out
          have hnb73 := NB560_553.out
          have hnc73 := NB553_560.out
          have hnb74 := NB560_557.out
          have hnc74 := NB557_560.out
          have hnb75 := NB560_558.out
          have hnc75 := NB558_560.out
          have hcz76_0 : w54.cell? ⟨gb560, 0, none⟩ = some (.int .i64 0) := (blk_cell BK560.out 0).trans rfl
          have hcz76_1 : w54.cell? ⟨gb560, 1, none⟩ = some (.int .i64 0) := (blk_cell BK560.out 1).trans rfl
          have hfz76_0 := blk_frozen BK560.out 0
          have hfz76_1 := blk_frozen BK560.out 1
          have hnb77 := NB557_552.out
          have hnc77 := NB552_557.out
          have hnb78 := NB557_553.out
          have hnc78 := NB553_557.out
          have hnb79 := NB557_558.out
          have hnc79 := NB558_557.out
          have hcz80_0 : w54.cell? ⟨gb557, 0, none⟩ = some (.int .i64 ji36) := (blk_cell BK557.out 0).trans rfl
          have hcz80_1 : w54.cell? ⟨gb557, 1, none⟩ = some (.int .i64 ji37) := (blk_cell BK557.out 1).trans rfl
          have hfz80_0 := blk_frozen BK557.out 0
          have hfz80_1 := blk_frozen BK557.out 1
          go_wp2
          go_meet
          case rel => exact ⟨_, (decide (((rd_T57 l0_1 x57_2).f1) > ji37)), (by first | rfl | (simp; done) | (simp only [← hji37] <;> (first | rfl | simp)) | (simp [*]; done)), H', ⟨by have := HJ3.out; have := HK2.out; first | omega | exact Nat.le_refl _⟩, ⟨by (with_reducible repeat (first | apply Kd.R_alloc | apply Kd.R_drewN | apply Kd.R_drew)); exact Kd.R_mono (Kd.R_far (p := ⟨gb560, 1, none⟩) (Kd.R_far (p := ⟨gb560, 0, none⟩) (Kd.R_mono HO_559001.out (fun k_ hk => (⟨hk, hk.2⟩ : _ ∧ k_ ≠ gb560))) (fun _ hk => hk.2) (.int .i64 ((rd_T57 l0_1 x57_2).f0))) (fun _ hk => hk.2) (.int .i64 ((rd_T57 l0_1 x57_2).f1))) (fun _ hk => ⟨hk.1.1, hk.1.2⟩)⟩, ⟨by (with_reducible repeat (first | refine blk_drewN ?_ _ | refine blk_drew ?_ | refine blk_alloc ?_ _)); refine blk_far ?_ NB552_560.out _; (with_reducible repeat (first | refine blk_drewN ?_ _ | refine blk_drew ?_ | refine blk_alloc ?_ _)); refine blk_far ?_ NB552_560.out _; exact Bz BK552⟩, ⟨by (with_reducible repeat (first | refine blk_drewN ?_ _ | refine blk_drew ?_ | refine blk_alloc ?_ _)); refine blk_far ?_ NB553_560.out _; (with_reducible repeat (first | refine blk_drewN ?_ _ | refine blk_drew ?_ | refine blk_alloc ?_ _)); refine blk_far ?_ NB553_560.out _; exact Bz BK553⟩, ⟨by (with_reducible repeat (first | refine blk_drewN ?_ _ | refine blk_drew ?_ | refine blk_alloc ?_ _)); refine blk_far ?_ NB557_560.out _; (with_reducible repeat (first | refine blk_drewN ?_ _ | refine blk_drew ?_ | refine blk_alloc ?_ _)); refine blk_far ?_ NB557_560.out _; exact Bz BK557⟩, ⟨by (with_reducible repeat (first | refine blk_drewN ?_ _ | refine blk_drew ?_ | refine blk_alloc ?_ _)); refine blk_far ?_ NB558_560.out _; (with_reducible repeat (first | refine blk_drewN ?_ _ | refine blk_drew ?_ | refine blk_alloc ?_ _)); refine blk_far ?_ NB558_560.out _; exact Bz BK558⟩, ⟨by (with_reducible repeat (first | refine blk_drewN ?_ _ | refine blk_drew ?_ | refine blk_alloc ?_ _)); refine blk_put (cs := #[.int .i64 ((rd_T57 l0_1 x57_2).f0), .int .i64 0]) ?_ 1 _ rfl; (with_reducible repeat (first | refine blk_drewN ?_ _ | refine blk_drew ?_ | refine blk_alloc ?_ _)); refine blk_put (cs := #[.int .i64 0, .int .i64 0]) ?_ 0 _ rfl; exact Bz BK560⟩, ⟨by first | exact Lz HB | repeat (first | (with_reducible first | exact HB.out | apply below_alloc | apply pw_below_drewN | apply below_drew1 | refine below_set ?_ GE552.out | refine below_set ?_ GE553.out | refine below_set ?_ GE557.out | refine below_set ?_ GE558.out | refine below_set ?_ GE560.out) | exact HB.out)⟩⟩
         rw [if_neg c71] at H
         have c71b0 : (((rd_T57 l0_1 x57_2).f0) == ji36) = false := beq_eq_false_iff_ne.mpr c71
         have c71b1 : (((rd_T57 l0_1 x57_2).f0) != ji36) = true := bne_iff_ne.mpr c71
         have H' := Aside0.mk H
         clear H
         have hnb81 := NB560_552.out
         have hnc81 := NB552_560.out
         have hnb82 := NB560_553.out
         have hnc82 := NB553_560.out
         have hnb83 := NB560_557.out
         have hnc83 := NB557_560.out
         have hnb84 := NB560_558.out
         have hnc84 := NB558_560.out
         have hcz85_0 : w54.cell? ⟨gb560, 0, none⟩ = some (.int .i64 0) := (blk_cell BK560.out 0).trans rfl
         have hcz85_1 : w54.cell? ⟨gb560, 1, none⟩ = some (.int .i64 0) := (blk_cell BK560.out 1).trans rfl
         have hfz85_0 := blk_frozen BK560.out 0
         have hfz85_1 := blk_frozen BK560.out 1
         have hnb86 := NB557_552.out
         have hnc86 := NB552_557.out
         have hnb87 := NB557_553.out
         have hnc87 := NB553_557.out
         have hnb88 := NB557_558.out
         have hnc88 := NB558_557.out
         have hcz89_0 : w54.cell? ⟨gb557, 0, none⟩ = some (.int .i64 ji36) := (blk_cell BK557.out 0).trans rfl
         have hcz89_1 : w54.cell? ⟨gb557, 1, none⟩ = some (.int .i64 ji37) := (blk_cell BK557.out 1).trans rfl
         have hfz89_0 := blk_frozen BK557.out 0
         have hfz89_1 := blk_frozen BK557.out 1
         go_wp2
         go_meet
         case rel => exact ⟨_, (false), eqA, H', ⟨by have := HJ3.out; have := HK2.out; first | omega | exact Nat.le_refl _⟩, ⟨by (with_reducible repeat (first | apply Kd.R_alloc | apply Kd.R_drewN | apply Kd.R_drew)); exact Kd.R_mono (Kd.R_far (p := ⟨gb560, 1, none⟩) (Kd.R_far (p := ⟨gb560, 0, none⟩) (Kd.R_mono HO_559001.out (fun k_ hk => (⟨hk, hk.2⟩ : _ ∧ k_ ≠ gb560))) (fun _ hk => hk.2) (.int .i64 ((rd_T57 l0_1 x57_2).f0))) (fun _ hk => hk.2) (.int .i64 ((rd_T57 l0_1 x57_2).f1))) (fun _ hk => ⟨hk.1.1, hk.1.2⟩)⟩, ⟨by (with_reducible repeat (first | refine blk_drewN ?_ _ | refine blk_drew ?_ | refine blk_alloc ?_ _)); refine blk_far ?_ NB552_560.out _; (with_reducible repeat (first | refine blk_drewN ?_ _ | refine blk_drew ?_ | refine blk_alloc ?_ _)); refine blk_far ?_ NB552_560.out _; exact Bz BK552⟩, ⟨by (with_reducible repeat (first | refine blk_drewN ?_ _ | refine blk_drew ?_ | refine blk_alloc ?_ _)); refine blk_far ?_ NB553_560.out _; (with_reducible repeat (first | refine blk_drewN ?_ _ | refine blk_drew ?_ | refine blk_alloc ?_ _)); refine blk_far ?_ NB553_560.out _; exact Bz BK553⟩, ⟨by (with_reducible repeat (first | refine blk_drewN ?_ _ | refine blk_drew ?_ | refine blk_alloc ?_ _)); refine blk_far ?_ NB557_560.out _; (with_reducible repeat (first | refine blk_drewN ?_ _ | refine blk_drew ?_ | refine blk_alloc ?_ _)); refine blk_far ?_ NB557_560.out _; exact Bz BK557⟩, ⟨by (with_reducible repeat (first | refine blk_drewN ?_ _ | refine blk_drew ?_ | refine blk_alloc ?_ _)); refine blk_far ?_ NB558_560.out _; (with_reducible repeat (first | refine blk_drewN ?_ _ | refine blk_drew ?_ | refine blk_alloc ?_ _)); refine blk_far ?_ NB558_560.out _; exact Bz BK558⟩, ⟨by (with_reducible repeat (first | refine blk_drewN ?_ _ | refine blk_drew ?_ | refine blk_alloc ?_ _)); refine blk_put (cs := #[.int .i64 ((rd_T57 l0_1 x57_2).f0), .int .i64 0]) ?_ 1 _ rfl; (with_reducible repeat (first | refine blk_drewN ?_ _ | refine blk_drew ?_ | refine blk_alloc ?_ _)); refine blk_put (cs := #[.int .i64 0, .int .i64 0]) ?_ 0 _ rfl; exact Bz BK560⟩, ⟨by first | exact Lz HB | repeat (first | (with_reducible first | exact HB.out | apply below_alloc | apply pw_below_drewN | apply below_drew1 | refine below_set ?_ GE552.out | refine below_set ?_ GE553.out | refine below_set ?_ GE557.out | refine below_set ?_ GE558.out | refine below_set ?_ GE560.out) | exact HB.out)⟩⟩
        case rest =>
         clear HC53
         try clear c8
         try clear c10
         try clear c12
         try clear c13
         try clear c13b0
         try clear c13b1
         try clear c33
         try clear c50
         try clear c50b0
         try clear c51
         try clear c51b0
         try clear c52
         try clear c52b0
         try clear c60
         try clear c61
         try clear c61b0
         try clear c71
         try clear c71b0
         try clear c71b1
         try clear p559
         try clear q559
         obtain ⟨kq, x83_52, rfl, HA, HJ52, HO_559001, BK552, BK553, BK557, BK558, BK560, HB⟩ := hcut
         cases kq with
         | zero => exact absurd HA.out (by simp [spec_AddEdge.j2])
         | succ kj52 =>
          have H := HA.out
          clear HA
          simp only [spec_AddEdge.j2] at H
          by_cases c90 : x83_52 = true
          ·subst c90
           have H1 : (if x559001_2.length < 8796093022208 then ((some (x559001_2 ++ [(⟨ji36, ji37⟩ : S57)] : List (S57))).bind fun y561 => (if y561.length < 8796093022208 then (spec_AddEdge.l0 kj52 true l0_1 (l0_1.length : Int) (wrap64 (x57_2 + 1)) ji36 ji37 a0_0 (y561 ++ [(⟨((rd_T57 l0_1 x57_2).f0), ((rd_T57 l0_1 x57_2).f1)⟩ : S57)])) else (none))) else (none)) = some (r1, r2, r3) := by rw [if_pos rfl] at H; exact H
           clear H
           have H := H1
           clear H1
           by_cases c91 : x559001_2.length < 8796093022208
           ·rw [if_pos c91] at H
            have LMc91 := Aside0.mk c91
            clear c91
            obtain ⟨y561, hy561⟩ : ∃ y_ : List (S57), y_ = (x559001_2 ++ [(⟨ji36, ji37⟩ : S57)]) := ⟨_, rfl⟩
            replace H : (if y561.length < 8796093022208 then (spec_AddEdge.l0 kj52 true l0_1 (l0_1.length : Int) (wrap64 (x57_2 + 1)) ji36 ji37 a0_0 (y561 ++ [(⟨((rd_T57 l0_1 x57_2).f0), ((rd_T57 l0_1 x57_2).f1)⟩ : S57)])) else (none)) = some (r1, r2, r3) := by first | (rw [hy561]; with_reducible exact H) | (have H2_ := (Option.bind_some _ _).symm.trans H; rw [hy561]; with_reducible exact H2_) | (have H2_ := (Option.bind_some _ _).symm.trans H; with_reducible exact H2_) | with_reducible exact H | (rw [hy561]; exact H) | exact H
            have Ny561 := Aside0.mk hy561
            clear hy561
            by_cases c92 : y561.length < 8796093022208
            ·rw [if_pos c92] at H
             have LMc92 := Aside0.mk c92
             clear c92
             obtain ⟨y564, hy564⟩ : ∃ y_ : List (S57), y_ = (y561 ++ [(⟨((rd_T57 l0_1 x57_2).f0), ((rd_T57 l0_1 x57_2).f1)⟩ : S57)]) := ⟨_, rfl⟩
             replace H : (spec_AddEdge.l0 kj52 true l0_1 (l0_1.length : Int) (wrap64 (x57_2 + 1)) ji36 ji37 a0_0 y564) = some (r1, r2, r3) := by first | (rw [hy564]; with_reducible exact H) | (have H2_ := (Option.bind_some _ _).symm.trans H; rw [hy564]; with_reducible exact H2_) | (have H2_ := (Option.bind_some _ _).symm.trans H; with_reducible exact H2_) | with_reducible exact H | (rw [hy564]; exact H) | exact H
             have Ny564 := Aside0.mk hy564
             clear hy564
             have H' := Aside0.mk H
             clear H
             have hnb93 := NB558_552.out
             have hnc93 := NB552_558.out
             have hnb94 := NB558_553.out
             have hnc94 := NB553_558.out
             have hnb95 := NB558_557.out
             have hnc95 := NB557_558.out
             have hnb96 := NB558_560.out
             have hnc96 := NB560_558.out
             have hcz97_0 : wc.cell? ⟨gb558, 0, none⟩ = some (.int .i64 a0_0) := (blk_cell BK558.out 0).trans rfl
             have hcz97_1 : wc.cell? ⟨gb558, 1, none⟩ = some (u559001) := (blk_cell BK558.out 1).trans rfl
             have hfz97_0 := blk_frozen BK558.out 0
             have hfz97_1 := blk_frozen BK558.out 1
             have hnb98 := NB557_552.out
             have hnc98 := NB552_557.out
             have hnb99 := NB557_553.out
             have hnc99 := NB553_557.out
             have hnb100 := NB557_560.out
             have hnc100 := NB560_557.out
             have hcz101_0 : wc.cell? ⟨gb557, 0, none⟩ = some (.int .i64 ji36) := (blk_cell BK557.out 0).trans rfl
             have hcz101_1 : wc.cell? ⟨gb557, 1, none⟩ = some (.int .i64 ji37) := (blk_cell BK557.out 1).trans rfl
             have hfz101_0 := blk_frozen BK557.out 0
             have hfz101_1 := blk_frozen BK557.out 1
             go_wp2_with (first | ((with_reducible refine gate_builtin (b := .append) (xs := #[.tmp 85, .tmp 87]) rfl ?_); (try (refine gate_guard (by rfl) ?_; dsimp only)); at_builtin; refine Kd.R_append k57 (w0 := w) w.heap.size rfl (.tmp 85) (.tmp 87) 28 57 (.agg #[(.int .i64 0), (.int .i64 0)]) 16 rfl Try.underlying28 info57 rfl (by decide) (by omega) u559001 x559001_2 (⟨ji36, ji37⟩ : S57) [.int .i64 ji36, .int .i64 ji37] (fun k_ => k_ ≠ gb557 ∧ k_ ≠ gb560) (fun _ => False) rfl rfl ?aP (fun _ hk => hk.elim) ?aF ?aO ?aB ?aS ?aL ?_; (case aP => exact k57_mkM _ _ _ (⟨ji36, ji37⟩ : S57)); (case aB => exact (by first | exact Lz HB | repeat (first | (with_reducible first | exact HB.out | apply below_alloc | apply pw_below_drewN | apply below_drew1 | refine below_set ?_ GE552.out | refine below_set ?_ GE553.out | refine below_set ?_ GE557.out | refine below_set ?_ GE558.out | refine below_set ?_ GE560.out) | exact HB.out))); (case aF => exact (fun k_ hk => ⟨Kd.freshB (g := gb557) (o := .cells #[.int .i64 ji36, .int .i64 ji37] 57 (0, 0)) (Bz BK557) k_ hk, Kd.freshB (g := gb560) (o := .cells #[.int .i64 ((rd_T57 l0_1 x57_2).f0), .int .i64 ((rd_T57 l0_1 x57_2).f1)] 57 (0, 0)) (Bz BK560) k_ hk⟩)); (case aO => exact (Rz HO_559001)); (case aS => exact (below_size (by first | exact Lz HB | repeat (first | (with_reducible first | exact HB.out | apply below_alloc | apply pw_below_drewN | apply below_drew1 | refine below_set ?_ GE552.out | refine below_set ?_ GE553.out | refine below_set ?_ GE557.out | refine below_set ?_ GE558.out | refine below_set ?_ GE560.out) | exact HB.out)))); (case aL => have := LMc91.out; omega); intro v562 w102 ho hb hg hat; rw [← Ny561.out] at ho; replace BK552 := Aside0.mk (blk_grown (g := gb552) (o := .cells #[.int .i64 a0_0, .slice (some ad559) l0_1.length c0_1] 30 (0, 0)) (Bz BK552) hg (Kd.R_ne HO_559001.out BK552.out (by decide))); replace BK553 := Aside0.mk (blk_grown (g := gb553) (o := .cells #[.int .i64 0, .slice none 0 0] 30 (0, 0)) (Bz BK553) hg (Kd.R_ne HO_559001.out BK553.out (by decide))); replace BK557 := Aside0.mk (blk_grown (g := gb557) (o := .cells #[.int .i64 ji36, .int .i64 ji37] 57 (0, 0)) (Bz BK557) hg (Kd.R_away HO_559001.out (fun _ hk => hk.1))); replace BK558 := Aside0.mk (blk_grown (g := gb558) (o := .cells #[.int .i64 a0_0, u559001] 30 (0, 0)) (Bz BK558) hg (Kd.R_ne HO_559001.out BK558.out (by decide))); replace BK560 := Aside0.mk (blk_grown (g := gb560) (o := .cells #[.int .i64 ((rd_T57 l0_1 x57_2).f0), .int .i64 ((rd_T57 l0_1 x57_2).f1)] 57 (0, 0)) (Bz BK560) hg (Kd.R_away HO_559001.out (fun _ hk => hk.2))); replace HB := Aside0.mk (hb); have HO563 := Aside0.mk (ho); clear HO_559001; clear ho hb hg hat; obtain ⟨Ao103, co103, eo103⟩ := Kd.R_slice HO563.out; subst eo103; have hcz104_0 : w102.cell? ⟨gb558, 0, none⟩ = some (.int .i64 a0_0) := (blk_cell BK558.out 0).trans rfl; have hcz104_1 : w102.cell? ⟨gb558, 1, none⟩ = some (u559001) := (blk_cell BK558.out 1).trans rfl; have hfz104_0 := blk_frozen BK558.out 0; have hfz104_1 := blk_frozen BK558.out 1; have hnb105 := NB560_552.out; have hnc105 := NB552_560.out; have hnb106 := NB560_553.out; have hnc106 := NB553_560.out; have hcz107_0 : w102.cell? ⟨gb560, 0, none⟩ = some (.int .i64 ((rd_T57 l0_1 x57_2).f0)) := (blk_cell BK560.out 0).trans rfl; have hcz107_1 : w102.cell? ⟨gb560, 1, none⟩ = some (.int .i64 ((rd_T57 l0_1 x57_2).f1)) := (blk_cell BK560.out 1).trans rfl; have hfz107_0 := blk_frozen BK560.out 0; have hfz107_1 := blk_frozen BK560.out 1) | ((with_reducible refine gate_builtin (b := .append) (xs := #[.tmp 91, .tmp 93]) rfl ?_); (try (refine gate_guard (by rfl) ?_; dsimp only)); at_builtin; refine Kd.R_append k57 (w0 := w) w.heap.size rfl (.tmp 91) (.tmp 93) 28 57 (.agg #[(.int .i64 0), (.int .i64 0)]) 16 rfl Try.underlying28 info57 rfl (by decide) (by omega) (.slice Ao103 y561.length co103) y561 (⟨((rd_T57 l0_1 x57_2).f0), ((rd_T57 l0_1 x57_2).f1)⟩ : S57) [.int .i64 ((rd_T57 l0_1 x57_2).f0), .int .i64 ((rd_T57 l0_1 x57_2).f1)] (fun k_ => k_ ≠ gb557 ∧ k_ ≠ gb560) (fun _ => False) rfl (by first | (go_simp; done) | (go_simp; rfl)) ?aP (fun _ hk => hk.elim) ?aF ?aO ?aB ?aS ?aL ?_; (case aP => exact k57_mkM _ _ _ (⟨((rd_T57 l0_1 x57_2).f0), ((rd_T57 l0_1 x57_2).f1)⟩ : S57)); (case aB => exact (by first | exact Lz HB | repeat (first | (with_reducible first | exact HB.out | apply below_alloc | apply pw_below_drewN | apply below_drew1 | refine below_set ?_ GE552.out | refine below_set ?_ GE553.out | refine below_set ?_ GE557.out | refine below_set ?_ GE558.out | refine below_set ?_ GE560.out) | exact HB.out))); (case aF => exact (fun k_ hk => ⟨Kd.freshB (g := gb557) (o := .cells #[.int .i64 ji36, .int .i64 ji37] 57 (0, 0)) (by (with_reducible repeat (first | refine blk_drewN ?_ _ | refine blk_drew ?_ | refine blk_alloc ?_ _)); refine blk_far ?_ NB557_558.out _; exact Bz BK557) k_ hk, Kd.freshB (g := gb560) (o := .cells #[.int .i64 ((rd_T57 l0_1 x57_2).f0), .int .i64 ((rd_T57 l0_1 x57_2).f1)] 57 (0, 0)) (by (with_reducible repeat (first | refine blk_drewN ?_ _ | refine blk_drew ?_ | refine blk_alloc ?_ _)); refine blk_far ?_ NB560_558.out _; exact Bz BK560) k_ hk⟩)); (case aO => exact (by (with_reducible repeat (first | apply Kd.R_alloc | apply Kd.R_drewN | apply Kd.R_drew)); exact Kd.R_mono (Kd.R_far (p := ⟨gb558, 1, none⟩) (Kd.R_types HO563.out BK558.out (by decide)) (fun _ hk => hk.2) (.slice Ao103 y561.length co103)) (fun _ hk => ⟨hk.1.1, hk.1.2⟩))); (case aS => exact (below_size (by first | exact Lz HB | repeat (first | (with_reducible first | exact HB.out | apply below_alloc | apply pw_below_drewN | apply below_drew1 | refine below_set ?_ GE552.out | refine below_set ?_ GE553.out | refine below_set ?_ GE557.out | refine below_set ?_ GE558.out | refine below_set ?_ GE560.out) | exact HB.out)))); (case aL => have := LMc92.out; omega); intro v565 w108 ho hb hg hat; rw [← Ny564.out] at ho; replace BK552 := Aside0.mk (blk_grown (g := gb552) (o := .cells #[.int .i64 a0_0, .slice (some ad559) l0_1.length c0_1] 30 (0, 0)) (by (with_reducible repeat (first | refine blk_drewN ?_ _ | refine blk_drew ?_ | refine blk_alloc ?_ _)); refine blk_far ?_ NB552_558.out _; exact Bz BK552) hg (Kd.R_ne HO563.out BK552.out (by decide))); replace BK553 := Aside0.mk (blk_grown (g := gb553) (o := .cells #[.int .i64 0, .slice none 0 0] 30 (0, 0)) (by (with_reducible repeat (first | refine blk_drewN ?_ _ | refine blk_drew ?_ | refine blk_alloc ?_ _)); refine blk_far ?_ NB553_558.out _; exact Bz BK553) hg (Kd.R_ne HO563.out BK553.out (by decide))); replace BK557 := Aside0.mk (blk_grown (g := gb557) (o := .cells #[.int .i64 ji36, .int .i64 ji37] 57 (0, 0)) (by (with_reducible repeat (first | refine blk_drewN ?_ _ | refine blk_drew ?_ | refine blk_alloc ?_ _)); refine blk_far ?_ NB557_558.out _; exact Bz BK557) hg (Kd.R_away HO563.out (fun _ hk => hk.1))); replace BK558 := Aside0.mk (blk_grown (g := gb558) (o := .cells #[.int .i64 a0_0, .slice Ao103 y561.length co103] 30 (0, 0)) (by (with_reducible repeat (first | refine blk_drewN ?_ _ | refine blk_drew ?_ | refine blk_alloc ?_ _)); refine blk_put (cs := #[.int .i64 a0_0, u559001]) ?_ 1 _ rfl; exact Bz BK558) hg (Kd.R_ne HO563.out BK558.out (by decide))); replace BK560 := Aside0.mk (blk_grown (g := gb560) (o := .cells #[.int .i64 ((rd_T57 l0_1 x57_2).f0), .int .i64 ((rd_T57 l0_1 x57_2).f1)] 57 (0, 0)) (by (with_reducible repeat (first | refine blk_drewN ?_ _ | refine blk_drew ?_ | refine blk_alloc ?_ _)); refine blk_far ?_ NB560_558.out _; exact Bz BK560) hg (Kd.R_away HO563.out (fun _ hk => hk.2))); replace HB := Aside0.mk (hb); have HO566 := Aside0.mk (ho); clear HO563; clear ho hb hg hat; obtain ⟨Ao109, co109, eo109⟩ := Kd.R_slice HO566.out; subst eo109; have hcz110_0 : w108.cell? ⟨gb558, 0, none⟩ = some (.int .i64 a0_0) := (blk_cell BK558.out 0).trans rfl; have hcz110_1 : w108.cell? ⟨gb558, 1, none⟩ = some (.slice Ao103 y561.length co103) := (blk_cell BK558.out 1).trans rfl; have hfz110_0 := blk_frozen BK558.out 0; have hfz110_1 := blk_frozen BK558.out 1))
             go_roundg kj52
             case measure => have := HJ3.out; have := HK2.out; have := HJ52.out; omega
             case rel => exact ⟨(true), (wrap64 (x57_2 + 1)), (y564), (.slice Ao109 y564.length co109), eqA, eqA, H', ⟨by have := HJ3.out; have := HK2.out; have := HJ52.out; omega⟩, ⟨by (with_reducible repeat (first | apply Kd.R_alloc | apply Kd.R_drewN | apply Kd.R_drew)); exact Kd.R_mono (Kd.R_far (p := ⟨gb558, 1, none⟩) (Kd.R_types HO566.out BK558.out (by decide)) (fun _ hk => hk.2) (.slice Ao109 y564.length co109)) (fun _ hk => hk.1.1)⟩, ⟨by (with_reducible repeat (first | refine blk_drewN ?_ _ | refine blk_drew ?_ | refine blk_alloc ?_ _)); refine blk_far ?_ NB552_558.out _; exact Bz BK552⟩, ⟨by (with_reducible repeat (first | refine blk_drewN ?_ _ | refine blk_drew ?_ | refine blk_alloc ?_ _)); refine blk_far ?_ NB553_558.out _; exact Bz BK553⟩, ⟨by (with_reducible repeat (first | refine blk_drewN ?_ _ | refine blk_drew ?_ | refine blk_alloc ?_ _)); refine blk_far ?_ NB557_558.out _; exact Bz BK557⟩, ⟨by (with_reducible repeat (first | refine blk_drewN ?_ _ | refine blk_drew ?_ | refine blk_alloc ?_ _)); refine blk_put (cs := #[.int .i64 a0_0, .slice Ao103 y561.length co103]) ?_ 1 _ rfl; exact Bz BK558⟩, ⟨by first | exact Lz HB | repeat (first | (with_reducible first | exact HB.out | apply below_alloc | apply pw_below_drewN | apply below_drew1 | refine below_set ?_ GE552.out | refine below_set ?_ GE553.out | refine below_set ?_ GE557.out | refine below_set ?_ GE558.out | refine below_set ?_ GE560.out) | exact HB.out)⟩⟩
            rw [if_neg c92] at H
            exact absurd H (by simp)
           rw [if_neg c91] at H
           exact absurd H (by simp)
          replace c90 := Bool.eq_false_iff.mpr c90
          subst c90
          have H1 : (if x559001_2.length < 8796093022208 then (spec_AddEdge.l0 kj52 x10_2 l0_1 (l0_1.length : Int) (wrap64 (x57_2 + 1)) ji36 ji37 a0_0 (x559001_2 ++ [(⟨((rd_T57 l0_1 x57_2).f0), ((rd_T57 l0_1 x57_2).f1)⟩ : S57)])) else (none)) = some (r1, r2, r3) := by rw [if_neg (show ¬ (false = true) by decide)] at H; exact H
          clear H
          have H := H1
          clear H1
          by_cases c111 : x559001_2.length < 8796093022208
          ·rw [if_pos c111] at H
           have LMc111 := Aside0.mk c111
           clear c111
           obtain ⟨y567, hy567⟩ : ∃ y_ : List (S57), y_ = (x559001_2 ++ [(⟨((rd_T57 l0_1 x57_2).f0), ((rd_T57 l0_1 x57_2).f1)⟩ : S57)]) := ⟨_, rfl⟩
           replace H : (spec_AddEdge.l0 kj52 x10_2 l0_1 (l0_1.length : Int) (wrap64 (x57_2 + 1)) ji36 ji37 a0_0 y567) = some (r1, r2, r3) := by first | (rw [hy567]; with_reducible exact H) | (have H2_ := (Option.bind_some _ _).symm.trans H; rw [hy567]; with_reducible exact H2_) | (have H2_ := (Option.bind_some _ _).symm.trans H; with_reducible exact H2_) | with_reducible exact H | (rw [hy567]; exact H) | exact H
           have Ny567 := Aside0.mk hy567
           clear hy567
           have H' := Aside0.mk H
           clear H
           have hnb112 := NB558_552.out
           have hnc112 := NB552_558.out
           have hnb113 := NB558_553.out
           have hnc113 := NB553_558.out
           have hnb114 := NB558_557.out
           have hnc114 := NB557_558.out
           have hnb115 := NB558_560.out
           have hnc115 := NB560_558.out
           have hcz116_0 : wc.cell? ⟨gb558, 0, none⟩ = some (.int .i64 a0_0) := (blk_cell BK558.out 0).trans rfl
           have hcz116_1 : wc.cell? ⟨gb558, 1, none⟩ = some (u559001) := (blk_cell BK558.out 1).trans rfl
           have hfz116_0 := blk_frozen BK558.out 0
           have hfz116_1 := blk_frozen BK558.out 1
           have hnb117 := NB560_552.out
           have hnc117 := NB552_560.out
           have hnb118 := NB560_553.out
           have hnc118 := NB553_560.out
           have hnb119 := NB560_557.out
           have hnc119 := NB557_560.out
           have hcz120_0 : wc.cell? ⟨gb560, 0, none⟩ = some (.int .i64 ((rd_T57 l0_1 x57_2).f0)) := (blk_cell BK560.out 0).trans rfl
           have hcz120_1 : wc.cell? ⟨gb560, 1, none⟩ = some (.int .i64 ((rd_T57 l0_1 x57_2).f1)) := (blk_cell BK560.out 1).trans rfl
           have hfz120_0 := blk_frozen BK560.out 0
           have hfz120_1 := blk_frozen BK560.out 1
           go_wp2_with (first | ((with_reducible refine gate_builtin (b := .append) (xs := #[.tmp 91, .tmp 93]) rfl ?_); (try (refine gate_guard (by rfl) ?_; dsimp only)); at_builtin; refine Kd.R_append k57 (w0 := w) w.heap.size rfl (.tmp 91) (.tmp 93) 28 57 (.agg #[(.int .i64 0), (.int .i64 0)]) 16 rfl Try.underlying28 info57 rfl (by decide) (by omega) u559001 x559001_2 (⟨((rd_T57 l0_1 x57_2).f0), ((rd_T57 l0_1 x57_2).f1)⟩ : S57) [.int .i64 ((rd_T57 l0_1 x57_2).f0), .int .i64 ((rd_T57 l0_1 x57_2).f1)] (fun k_ => k_ ≠ gb557 ∧ k_ ≠ gb560) (fun _ => False) rfl rfl ?aP (fun _ hk => hk.elim) ?aF ?aO ?aB ?aS ?aL ?_; (case aP => exact k57_mkM _ _ _ (⟨((rd_T57 l0_1 x57_2).f0), ((rd_T57 l0_1 x57_2).f1)⟩ : S57)); (case aB => exact (by first | exact Lz HB | repeat (first | (with_reducible first | exact HB.out | apply below_alloc | apply pw_below_drewN | apply below_drew1 | refine below_set ?_ GE552.out | refine below_set ?_ GE553.out | refine below_set ?_ GE557.out | refine below_set ?_ GE558.out | refine below_set ?_ GE560.out) | exact HB.out))); (case aF => exact (fun k_ hk => ⟨Kd.freshB (g := gb557) (o := .cells #[.int .i64 ji36, .int .i64 ji37] 57 (0, 0)) (Bz BK557) k_ hk, Kd.freshB (g := gb560) (o := .cells #[.int .i64 ((rd_T57 l0_1 x57_2).f0), .int .i64 ((rd_T57 l0_1 x57_2).f1)] 57 (0, 0)) (Bz BK560) k_ hk⟩)); (case aO => exact (Rz HO_559001)); (case aS => exact (below_size (by first | exact Lz HB | repeat (first | (with_reducible first | exact HB.out | apply below_alloc | apply pw_below_drewN | apply below_drew1 | refine below_set ?_ GE552.out | refine below_set ?_ GE553.out | refine below_set ?_ GE557.out | refine below_set ?_ GE558.out | refine below_set ?_ GE560.out) | exact HB.out)))); (case aL => have := LMc111.out; omega); intro v568 w121 ho hb hg hat; rw [← Ny567.out] at ho; replace BK552 := Aside0.mk (blk_grown (g := gb552) (o := .cells #[.int .i64 a0_0, .slice (some ad559) l0_1.length c0_1] 30 (0, 0)) (Bz BK552) hg (Kd.R_ne HO_559001.out BK552.out (by decide))); replace BK553 := Aside0.mk (blk_grown (g := gb553) (o := .cells #[.int .i64 0, .slice none 0 0] 30 (0, 0)) (Bz BK553) hg (Kd.R_ne HO_559001.out BK553.out (by decide))); replace BK557 := Aside0.mk (blk_grown (g := gb557) (o := .cells #[.int .i64 ji36, .int .i64 ji37] 57 (0, 0)) (Bz BK557) hg (Kd.R_away HO_559001.out (fun _ hk => hk.1))); replace BK558 := Aside0.mk (blk_grown (g := gb558) (o := .cells #[.int .i64 a0_0, u559001] 30 (0, 0)) (Bz BK558) hg (Kd.R_ne HO_559001.out BK558.out (by decide))); replace BK560 := Aside0.mk (blk_grown (g := gb560) (o := .cells #[.int .i64 ((rd_T57 l0_1 x57_2).f0), .int .i64 ((rd_T57 l0_1 x57_2).f1)] 57 (0, 0)) (Bz BK560) hg (Kd.R_away HO_559001.out (fun _ hk => hk.2))); replace HB := Aside0.mk (hb); have HO569 := Aside0.mk (ho); clear HO_559001; clear ho hb hg hat; obtain ⟨Ao122, co122, eo122⟩ := Kd.R_slice HO569.out; subst eo122; have hcz123_0 : w121.cell? ⟨gb558, 0, none⟩ = some (.int .i64 a0_0) := (blk_cell BK558.out 0).trans rfl; have hcz123_1 : w121.cell? ⟨gb558, 1, none⟩ = some (u559001) := (blk_cell BK558.out 1).trans rfl; have hfz123_0 := blk_frozen BK558.out 0; have hfz123_1 := blk_frozen BK558.out 1))
           go_roundg kj52
           case measure => have := HJ3.out; have := HK2.out; have := HJ52.out; omega
           case rel => exact ⟨(x10_2), (wrap64 (x57_2 + 1)), (y567), (.slice Ao122 y567.length co122), eqA, eqA, H', ⟨by have := HJ3.out; have := HK2.out; have := HJ52.out; omega⟩, ⟨by (with_reducible repeat (first | apply Kd.R_alloc | apply Kd.R_drewN | apply Kd.R_drew)); exact Kd.R_mono (Kd.R_far (p := ⟨gb558, 1, none⟩) (Kd.R_types HO569.out BK558.out (by decide)) (fun _ hk => hk.2) (.slice Ao122 y567.length co122)) (fun _ hk => hk.1.1)⟩, ⟨by (with_reducible repeat (first | refine blk_drewN ?_ _ | refine blk_drew ?_ | refine blk_alloc ?_ _)); refine blk_far ?_ NB552_558.out _; exact Bz BK552⟩, ⟨by (with_reducible repeat (first | refine blk_drewN ?_ _ | refine blk_drew ?_ | refine blk_alloc ?_ _)); refine blk_far ?_ NB553_558.out _; exact Bz BK553⟩, ⟨by (with_reducible repeat (first | refine blk_drewN ?_ _ | refine blk_drew ?_ | refine blk_alloc ?_ _)); refine blk_far ?_ NB557_558.out _; exact Bz BK557⟩, ⟨by (with_reducible repeat (first | refine blk_drewN ?_ _ | refine blk_drew ?_ | refine blk_alloc ?_ _)); refine blk_put (cs := #[.int .i64 a0_0, u559001]) ?_ 1 _ rfl; exact Bz BK558⟩, ⟨by first | exact Lz HB | repeat (first | (with_reducible first | exact HB.out | apply below_alloc | apply pw_below_drewN | apply below_drew1 | refine below_set ?_ GE552.out | refine below_set ?_ GE553.out | refine below_set ?_ GE557.out | refine below_set ?_ GE558.out | refine below_set ?_ GE560.out) | exact HB.out)⟩⟩
          rw [if_neg c111] at H
          exact absurd H (by simp)
       rw [if_neg c52] at H
       exact absurd H (by simp)
      rw [if_neg c51] at H
      exact absurd H (by simp)
     rw [if_neg c50] at H
     have c50b0 : decide (x57_2 < (l0_1.length : Int)) = false := decide_eq_false c50
     clear c50
     by_cases c124 : x10_2 = true
     ·subst c124
      have H1 : (some (a0_0, x559001_2, true)) = some (r1, r2, r3) := by rw [if_pos rfl] at H; exact H
      clear H
      have H := H1
      clear H1
      simp only [Option.some.injEq, Prod.mk.injEq] at H
      obtain ⟨rfl, rfl, rfl⟩ := H
      have hnb125 := NB558_552.out
      have hnc125 := NB552_558.out
      have hnb126 := NB558_553.out
      have hnc126 := NB553_558.out
      have hnb127 := NB558_557.out
      have hnc127 := NB557_558.out
      have hcz128_0 : wr.cell? ⟨gb558, 0, none⟩ = some (.int .i64 a0_0) := (blk_cell BK558.out 0).trans rfl
      have hcz128_1 : wr.cell? ⟨gb558, 1, none⟩ = some (u559001) := (blk_cell BK558.out 1).trans rfl
      have hfz128_0 := blk_frozen BK558.out 0
      have hfz128_1 := blk_frozen BK558.out 1
      have hnb129 := NB553_552.out
      have hnc129 := NB552_553.out
      have hnb130 := NB553_557.out
      have hnc130 := NB557_553.out
      have hcz131_0 : wr.cell? ⟨gb553, 0, none⟩ = some (.int .i64 0) := (blk_cell BK553.out 0).trans rfl
      have hcz131_1 : wr.cell? ⟨gb553, 1, none⟩ = some (.slice none 0 0) := (blk_cell BK553.out 1).trans rfl
      have hfz131_0 := blk_frozen BK553.out 0
      have hfz131_1 := blk_frozen BK553.out 1
      obtain ⟨Ao132, co132, eo132⟩ := Kd.R_slice HO_559001.out
      subst eo132
      go_wp2
      refine bodyPost_ret (results_ct rfl _ _ gb553 30 #[.int .i64 a0_0, .slice Ao132 x559001_2.length co132] (0, 0) _ rfl (by (with_reducible repeat (first | refine blk_drewN ?_ _ | refine blk_drew ?_ | refine blk_alloc ?_ _)); refine blk_put (cs := #[.int .i64 a0_0, .slice none 0 0]) ?_ 1 _ rfl; (with_reducible repeat (first | refine blk_drewN ?_ _ | refine blk_drew ?_ | refine blk_alloc ?_ _)); refine blk_put (cs := #[.int .i64 0, .slice none 0 0]) ?_ 0 _ rfl; exact Bz BK553) Try.underlying30 rfl (by kernel_rfl)) rfl ?_
      exact ⟨_, by first | rfl | (simp [errW_none, errW_some] <;> rfl) | (simp only [← hji36, ← hji37]; first | rfl | (simp [errW_none, errW_some] <;> rfl)) | (simp [*, errW_none, errW_some] <;> rfl), by (with_reducible repeat (first | apply Kd.R_alloc | apply Kd.R_drewN | apply Kd.R_drew)); exact Kd.R_mono (Kd.R_far (p := ⟨gb553, 1, none⟩) (Kd.R_far (p := ⟨gb553, 0, none⟩) (Kd.R_types HO_559001.out BK553.out (by decide)) (fun _ hk => hk.2) (.int .i64 a0_0)) (fun _ hk => hk.2) (.slice Ao132 x559001_2.length co132)) (fun _ hk => trivial), by first | exact Lz HB | repeat (first | (with_reducible first | exact HB.out | apply below_alloc | apply pw_below_drewN | apply below_drew1 | refine below_set ?_ GE552.out | refine below_set ?_ GE553.out | refine below_set ?_ GE557.out | refine below_set ?_ GE558.out) | exact HB.out)⟩
     replace c124 := Bool.eq_false_iff.mpr c124
     subst c124
     have H1 : (if x559001_2.length < 8796093022208 then (some (a0_0, (x559001_2 ++ [(⟨ji36, ji37⟩ : S57)]), true)) else (none)) = some (r1, r2, r3) := by rw [if_neg (show ¬ (false = true) by decide)] at H; exact H
     clear H
     have H := H1
     clear H1
     by_cases c133 : x559001_2.length < 8796093022208
     ·rw [if_pos c133] at H
      have LMc133 := Aside0.mk c133
      clear c133
      obtain ⟨y570, hy570⟩ : ∃ y_ : List (S57), y_ = (x559001_2 ++ [(⟨ji36, ji37⟩ : S57)]) := ⟨_, rfl⟩
      replace H : (some (a0_0, y570, true)) = some (r1, r2, r3) := by first | (rw [hy570]; with_reducible exact H) | (have H2_ := (Option.bind_some _ _).symm.trans H; rw [hy570]; with_reducible exact H2_) | (have H2_ := (Option.bind_some _ _).symm.trans H; with_reducible exact H2_) | with_reducible exact H | (rw [hy570]; exact H) | exact H
      have Ny570 := Aside0.mk hy570
      clear hy570
      simp only [Option.some.injEq, Prod.mk.injEq] at H
      obtain ⟨rfl, rfl, rfl⟩ := H
      have hnb134 := NB558_552.out
      have hnc134 := NB552_558.out
      have hnb135 := NB558_553.out
      have hnc135 := NB553_558.out
      have hnb136 := NB558_557.out
      have hnc136 := NB557_558.out
      have hcz137_0 : wr.cell? ⟨gb558, 0, none⟩ = some (.int .i64 a0_0) := (blk_cell BK558.out 0).trans rfl
      have hcz137_1 : wr.cell? ⟨gb558, 1, none⟩ = some (u559001) := (blk_cell BK558.out 1).trans rfl
      have hfz137_0 := blk_frozen BK558.out 0
      have hfz137_1 := blk_frozen BK558.out 1
      have hnb138 := NB557_552.out
      have hnc138 := NB552_557.out
      have hnb139 := NB557_553.out
      have hnc139 := NB553_557.out
      have hcz140_0 : wr.cell? ⟨gb557, 0, none⟩ = some (.int .i64 ji36) := (blk_cell BK557.out 0).trans rfl
      have hcz140_1 : wr.cell? ⟨gb557, 1, none⟩ = some (.int .i64 ji37) := (blk_cell BK557.out 1).trans rfl
      have hfz140_0 := blk_frozen BK557.out 0
      have hfz140_1 := blk_frozen BK557.out 1
      go_wp2_with (first | ((with_reducible refine gate_builtin (b := .append) (xs := #[.tmp 100, .tmp 102]) rfl ?_); (try (refine gate_guard (by rfl) ?_; dsimp only)); at_builtin; refine Kd.R_append k57 (w0 := w) w.heap.size rfl (.tmp 100) (.tmp 102) 28 57 (.agg #[(.int .i64 0), (.int .i64 0)]) 16 rfl Try.underlying28 info57 rfl (by decide) (by omega) u559001 x559001_2 (⟨ji36, ji37⟩ : S57) [.int .i64 ji36, .int .i64 ji37] (fun k_ => k_ ≠ gb557) (fun _ => False) rfl rfl ?aP (fun _ hk => hk.elim) ?aF ?aO ?aB ?aS ?aL ?_; (case aP => exact k57_mkM _ _ _ (⟨ji36, ji37⟩ : S57)); (case aB => exact (by first | exact Lz HB | repeat (first | (with_reducible first | exact HB.out | apply below_alloc | apply pw_below_drewN | apply below_drew1 | refine below_set ?_ GE552.out | refine below_set ?_ GE553.out | refine below_set ?_ GE557.out | refine below_set ?_ GE558.out) | exact HB.out))); (case aF => exact (fun k_ hk => Kd.freshB (g := gb557) (o := .cells #[.int .i64 ji36, .int .i64 ji37] 57 (0, 0)) (Bz BK557) k_ hk)); (case aO => exact (Rz HO_559001)); (case aS => exact (below_size (by first | exact Lz HB | repeat (first | (with_reducible first | exact HB.out | apply below_alloc | apply pw_below_drewN | apply below_drew1 | refine below_set ?_ GE552.out | refine below_set ?_ GE553.out | refine below_set ?_ GE557.out | refine below_set ?_ GE558.out) | exact HB.out)))); (case aL => have := LMc133.out; omega); intro v571 w141 ho hb hg hat; rw [← Ny570.out] at ho; replace BK552 := Aside0.mk (blk_grown (g := gb552) (o := .cells #[.int .i64 a0_0, .slice A0_1 l0_1.length c0_1] 30 (0, 0)) (Bz BK552) hg (Kd.R_ne HO_559001.out BK552.out (by decide))); replace BK553 := Aside0.mk (blk_grown (g := gb553) (o := .cells #[.int .i64 0, .slice none 0 0] 30 (0, 0)) (Bz BK553) hg (Kd.R_ne HO_559001.out BK553.out (by decide))); replace BK557 := Aside0.mk (blk_grown (g := gb557) (o := .cells #[.int .i64 ji36, .int .i64 ji37] 57 (0, 0)) (Bz BK557) hg (Kd.R_away HO_559001.out (fun _ hk => hk))); replace BK558 := Aside0.mk (blk_grown (g := gb558) (o := .cells #[.int .i64 a0_0, u559001] 30 (0, 0)) (Bz BK558) hg (Kd.R_ne HO_559001.out BK558.out (by decide))); replace HB := Aside0.mk (hb); have HO572 := Aside0.mk (ho); clear HO_559001; clear ho hb hg hat; obtain ⟨Ao142, co142, eo142⟩ := Kd.R_slice HO572.out; subst eo142; have hcz143_0 : w141.cell? ⟨gb558, 0, none⟩ = some (.int .i64 a0_0) := (blk_cell BK558.out 0).trans rfl; have hcz143_1 : w141.cell? ⟨gb558, 1, none⟩ = some (u559001) := (blk_cell BK558.out 1).trans rfl; have hfz143_0 := blk_frozen BK558.out 0; have hfz143_1 := blk_frozen BK558.out 1; have hnb144 := NB553_552.out; have hnc144 := NB552_553.out; have hcz145_0 : w141.cell? ⟨gb553, 0, none⟩ = some (.int .i64 0) := (blk_cell BK553.out 0).trans rfl; have hcz145_1 : w141.cell? ⟨gb553, 1, none⟩ = some (.slice none 0 0) := (blk_cell BK553.out 1).trans rfl; have hfz145_0 := blk_frozen BK553.out 0; have hfz145_1 := blk_frozen BK553.out 1))
      refine bodyPost_ret (results_ct rfl _ _ gb553 30 #[.int .i64 a0_0, .slice Ao142 y570.length co142] (0, 0) _ rfl (by (with_reducible repeat (first | refine blk_drewN ?_ _ | refine blk_drew ?_ | refine blk_alloc ?_ _)); refine blk_put (cs := #[.int .i64 a0_0, .slice none 0 0]) ?_ 1 _ rfl; (with_reducible repeat (first | refine blk_drewN ?_ _ | refine blk_drew ?_ | refine blk_alloc ?_ _)); refine blk_put (cs := #[.int .i64 0, .slice none 0 0]) ?_ 0 _ rfl; (with_reducible repeat (first | refine blk_drewN ?_ _ | refine blk_drew ?_ | refine blk_alloc ?_ _)); refine blk_far ?_ NB553_558.out _; exact Bz BK553) Try.underlying30 rfl (by kernel_rfl)) rfl ?_
      exact ⟨_, by first | rfl | (simp [errW_none, errW_some] <;> rfl) | (simp only [← hji36, ← hji37]; first | rfl | (simp [errW_none, errW_some] <;> rfl)) | (simp [*, errW_none, errW_some] <;> rfl), by (with_reducible repeat (first | apply Kd.R_alloc | apply Kd.R_drewN | apply Kd.R_drew)); exact Kd.R_mono (Kd.R_far (p := ⟨gb553, 1, none⟩) (Kd.R_far (p := ⟨gb553, 0, none⟩) (Kd.R_far (p := ⟨gb558, 1, none⟩) (Kd.R_types (Kd.R_types HO572.out BK558.out (by decide)) BK553.out (by decide)) (fun _ hk => hk.1.2) (.slice Ao142 y570.length co142)) (fun _ hk => hk.2) (.int .i64 a0_0)) (fun _ hk => hk.2) (.slice Ao142 y570.length co142)) (fun _ hk => trivial), by first | exact Lz HB | repeat (first | (with_reducible first | exact HB.out | apply below_alloc | apply pw_below_drewN | apply below_drew1 | refine below_set ?_ GE552.out | refine below_set ?_ GE553.out | refine below_set ?_ GE557.out | refine below_set ?_ GE558.out) | exact HB.out)⟩
     rw [if_neg c133] at H
     exact absurd H (by simp)
end Go.Proofs.Ytplcclifmajcfaa.P
end
